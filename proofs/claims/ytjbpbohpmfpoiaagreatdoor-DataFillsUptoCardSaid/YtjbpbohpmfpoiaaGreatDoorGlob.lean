/- What TM reads of the program's variables. Condition: none. -/
import Derived.Test.YtjbpbohpmfpoiaaGreatDoorTmProg
import Derived.SevenTiedAt
import Derived.Stop.Joined
import Derived.JoinedOf
import Derived.Lay
import Derived.LaidMore
set_option maxRecDepth 100000
set_option linter.unusedSimpArgs false
set_option linter.unusedVariables false
namespace Go.Proofs.YtjbpbohpmfpoiaaGreatDoor
open Go Go.TM Go.RowKit Go.ChangeShapes Go.WideShapes
theorem own:ownKnob Tryz.prog.godebug=none:=by kernel_rfl
theorem aW3:laidOutB Tryz.prog=true:=by kernel_rfl
theorem nm0 : Tryz.prog.globalNamed "unicode/utf8.first" = some 0 := by kernel_rfl
theorem ty0:(Tryz.prog.globals[0]?).map (·.type)=some 210:=by kernel_rfl
theorem nm1 : Tryz.prog.globalNamed "unicode/utf8.acceptRanges" = some 1 := by kernel_rfl
theorem ty1:(Tryz.prog.globals[1]?).map (·.type)=some 213:=by kernel_rfl
def aW4:List TypeId:=[5, 210, 211, 212, 213]
theorem bBu:aNr Tryz.prog aW4=true:=by kernel_rfl
def oX : List (String × DataW Unit) := [("math/bits.deBruijn32tab", Rows.laid_math_bits_deBruijn32tab), ("math/bits.deBruijn64tab", Rows.laid_math_bits_deBruijn64tab), ("internal/strconv.uint64pow10", Rows.laid_internal_strconv_uint64pow10), ("unicode/utf8.acceptRanges", Rows.laid_unicode_utf8_acceptRanges), ("unicode/utf8.first", Rows.laid_unicode_utf8_first)]
theorem iv0:aGd (Rows.laid_unicode_utf8_first:DataW Unit)=g0:=by kernel_rfl
theorem iv1:aGd (Rows.laid_unicode_utf8_acceptRanges:DataW Unit)=g1:=by kernel_rfl
theorem aW5 {W:World}(hL:laidMetH Tryz.prog oX W):mY K (dY W):=by
  rw[MakeChecks.laidMetH_plain _ _ _ (by kernel_rfl)]at hL
  obtain⟨ps, hv, _⟩:=hL
  have h0 := uB bBu hv "unicode/utf8.first" Rows.laid_unicode_utf8_first (by simp [oX]) 0 210 nm0 ty0 (by decide) (by kernel_rfl)
  rw[iv0]at h0
  have h1 := uB bBu hv "unicode/utf8.acceptRanges" Rows.laid_unicode_utf8_acceptRanges (by simp [oX]) 1 213 nm1 ty1 (by decide) (by kernel_rfl)
  rw[iv1]at h1
  have hall:aBy (fun g cs=>IR (dY W) (.cp cs) (.pointer (some ⟨g, 0, none⟩))) 0 gtbl:=⟨h0, h1, trivial⟩
  exact fun g cs h=>aBz hall g cs h
end Go.Proofs.YtjbpbohpmfpoiaaGreatDoor
