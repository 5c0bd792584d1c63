/- What TM reads of the program's variables. Condition: none. -/
import Derived.Test.YtjbpbohpmfpoiaaGreatDoorTmProg
import Derived.SevenTiedAt
import Derived.Stop.Joined
import Derived.JoinedOf
import Derived.Lay
import Derived.LaidMore
set_option maxRecDepth 100000
set_option linter.unusedVariables false
namespace Go.Proofs.YtjbpbohpmfpoiaaGreatDoor
open Go Go.TM Go.RowKit Go.ChangeShapes Go.WideShapes
theorem own : ownKnob Tryz.prog.godebug = none := by kernel_rfl
theorem laidOut : laidOutB Tryz.prog = true := by kernel_rfl
theorem nm0 : Tryz.prog.globalNamed "unicode/utf8.first" = some 0 := by kernel_rfl
theorem ty0 : (Tryz.prog.globals[0]?).map (·.type) = some 210 := by kernel_rfl
theorem nm1 : Tryz.prog.globalNamed "unicode/utf8.acceptRanges" = some 1 := by kernel_rfl
theorem ty1 : (Tryz.prog.globals[1]?).map (·.type) = some 213 := by kernel_rfl
theorem nm2 : Tryz.prog.globalNamed "internal/strconv.uint64pow10" = some 2 := by kernel_rfl
theorem ty2 : (Tryz.prog.globals[2]?).map (·.type) = some 225 := by kernel_rfl
theorem nm4 : Tryz.prog.globalNamed "math/bits.deBruijn32tab" = some 4 := by kernel_rfl
theorem ty4 : (Tryz.prog.globals[4]?).map (·.type) = some 228 := by kernel_rfl
theorem nm5 : Tryz.prog.globalNamed "math/bits.deBruijn64tab" = some 5 := by kernel_rfl
theorem ty5 : (Tryz.prog.globals[5]?).map (·.type) = some 229 := by kernel_rfl
def rdTypes : List TypeId := [5, 158, 210, 211, 212, 213, 225, 228, 229]
theorem rd_ok : tyOk Tryz.prog rdTypes = true := by kernel_rfl
def theLaid : List (String × DataW Unit) := [("math/bits.deBruijn32tab", Rows.laid_math_bits_deBruijn32tab), ("math/bits.deBruijn64tab", Rows.laid_math_bits_deBruijn64tab), ("internal/strconv.uint64pow10", Rows.laid_internal_strconv_uint64pow10), ("unicode/utf8.acceptRanges", Rows.laid_unicode_utf8_acceptRanges), ("unicode/utf8.first", Rows.laid_unicode_utf8_first)]
theorem iv0 : ivsD (Rows.laid_unicode_utf8_first : DataW Unit) = g0 := by kernel_rfl
theorem iv1 : ivsD (Rows.laid_unicode_utf8_acceptRanges : DataW Unit) = g1 := by kernel_rfl
theorem iv2 : ivsD (Rows.laid_internal_strconv_uint64pow10 : DataW Unit) = g2 := by kernel_rfl
theorem iv4 : ivsD (Rows.laid_math_bits_deBruijn32tab : DataW Unit) = g4 := by kernel_rfl
theorem iv5 : ivsD (Rows.laid_math_bits_deBruijn64tab : DataW Unit) = g5 := by kernel_rfl
theorem glob_ok {W : World} (hL : laidMetH Tryz.prog theLaid W) : GlobOK K (allMem W) := by
  rw [MakeChecks.laidMetH_plain _ _ _ (by kernel_rfl)] at hL
  obtain ⟨ps, hv, _⟩ := hL
  have h0 := laid_glob rd_ok hv "unicode/utf8.first" Rows.laid_unicode_utf8_first (by simp [theLaid]) 0 210 nm0 ty0 (by decide) (by kernel_rfl)
  rw [iv0] at h0
  have h1 := laid_glob rd_ok hv "unicode/utf8.acceptRanges" Rows.laid_unicode_utf8_acceptRanges (by simp [theLaid]) 1 213 nm1 ty1 (by decide) (by kernel_rfl)
  rw [iv1] at h1
  have h2 := laid_glob rd_ok hv "internal/strconv.uint64pow10" Rows.laid_internal_strconv_uint64pow10 (by simp [theLaid]) 2 225 nm2 ty2 (by decide) (by kernel_rfl)
  rw [iv2] at h2
  have h4 := laid_glob rd_ok hv "math/bits.deBruijn32tab" Rows.laid_math_bits_deBruijn32tab (by simp [theLaid]) 4 228 nm4 ty4 (by decide) (by kernel_rfl)
  rw [iv4] at h4
  have h5 := laid_glob rd_ok hv "math/bits.deBruijn64tab" Rows.laid_math_bits_deBruijn64tab (by simp [theLaid]) 5 229 nm5 ty5 (by decide) (by kernel_rfl)
  rw [iv5] at h5
  have hall : AllAt (fun g cs => IR (allMem W) (.cp cs) (.pointer (some ⟨g, 0, none⟩))) 0 gtbl := ⟨h0, h1, h2, h4, h5, trivial⟩
  exact fun g cs h => allAt_get hall g cs h
end Go.Proofs.YtjbpbohpmfpoiaaGreatDoor
