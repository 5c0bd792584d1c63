/- What TM reads of the program's variables. Condition: none. -/
import Derived.Test.YtookmpaholmmfaaGreatDoorTmProg
import Derived.SevenTiedAt
import Derived.Stop.Joined
import Derived.JoinedOf
import Derived.Lay
import Derived.LaidMore
set_option maxRecDepth 100000
set_option linter.unusedSimpArgs false
set_option linter.unusedVariables false
namespace Go.Proofs.YtookmpaholmmfaaGreatDoor
open Go Go.TM Go.RowKit Go.ChangeShapes Go.WideShapes
theorem own:ownKnob Tryz.prog.godebug=none:=by kernel_rfl
theorem bB2:laidOutB Tryz.prog=true:=by kernel_rfl
theorem nm0 : Tryz.prog.globalNamed "internal/strconv.uint64pow10" = some 0 := by kernel_rfl
theorem ty0:(Tryz.prog.globals[0]?).map (·.type)=some 198:=by kernel_rfl
theorem nm2 : Tryz.prog.globalNamed "unicode/utf8.first" = some 2 := by kernel_rfl
theorem ty2:(Tryz.prog.globals[2]?).map (·.type)=some 208:=by kernel_rfl
theorem nm3 : Tryz.prog.globalNamed "unicode/utf8.acceptRanges" = some 3 := by kernel_rfl
theorem ty3:(Tryz.prog.globals[3]?).map (·.type)=some 211:=by kernel_rfl
theorem nm4 : Tryz.prog.globalNamed "math/bits.deBruijn32tab" = some 4 := by kernel_rfl
theorem ty4:(Tryz.prog.globals[4]?).map (·.type)=some 215:=by kernel_rfl
theorem nm5 : Tryz.prog.globalNamed "math/bits.deBruijn64tab" = some 5 := by kernel_rfl
theorem ty5:(Tryz.prog.globals[5]?).map (·.type)=some 216:=by kernel_rfl
def bB3:List TypeId:=[5, 176, 198, 208, 209, 210, 211, 215, 216]
theorem aHc:aSf Tryz.prog bB3=true:=by kernel_rfl
def mD : List (String × DataW Unit) := [("math/bits.deBruijn32tab", Rows.laid_math_bits_deBruijn32tab), ("math/bits.deBruijn64tab", Rows.laid_math_bits_deBruijn64tab), ("internal/strconv.uint64pow10", Rows.laid_internal_strconv_uint64pow10), ("unicode/utf8.acceptRanges", Rows.laid_unicode_utf8_acceptRanges), ("unicode/utf8.first", Rows.laid_unicode_utf8_first)]
theorem iv0:aBj (Rows.laid_internal_strconv_uint64pow10:DataW Unit)=g0:=by kernel_rfl
theorem iv2:aBj (Rows.laid_unicode_utf8_first:DataW Unit)=g2:=by kernel_rfl
theorem iv3:aBj (Rows.laid_unicode_utf8_acceptRanges:DataW Unit)=g3:=by kernel_rfl
theorem iv4:aBj (Rows.laid_math_bits_deBruijn32tab:DataW Unit)=g4:=by kernel_rfl
theorem iv5:aBj (Rows.laid_math_bits_deBruijn64tab:DataW Unit)=g5:=by kernel_rfl
theorem bB4 {W:World}(hL:laidMetH Tryz.prog mD W):pA K (eL W):=by
  rw[MakeChecks.laidMetH_plain _ _ _ (by kernel_rfl)]at hL
  obtain⟨ps, hv, _⟩:=hL
  have h0 := mS aHc hv "internal/strconv.uint64pow10" Rows.laid_internal_strconv_uint64pow10 (by simp [mD]) 0 198 nm0 ty0 (by decide) (by kernel_rfl)
  rw[iv0]at h0
  have h2 := mS aHc hv "unicode/utf8.first" Rows.laid_unicode_utf8_first (by simp [mD]) 2 208 nm2 ty2 (by decide) (by kernel_rfl)
  rw[iv2]at h2
  have h3 := mS aHc hv "unicode/utf8.acceptRanges" Rows.laid_unicode_utf8_acceptRanges (by simp [mD]) 3 211 nm3 ty3 (by decide) (by kernel_rfl)
  rw[iv3]at h3
  have h4 := mS aHc hv "math/bits.deBruijn32tab" Rows.laid_math_bits_deBruijn32tab (by simp [mD]) 4 215 nm4 ty4 (by decide) (by kernel_rfl)
  rw[iv4]at h4
  have h5 := mS aHc hv "math/bits.deBruijn64tab" Rows.laid_math_bits_deBruijn64tab (by simp [mD]) 5 216 nm5 ty5 (by decide) (by kernel_rfl)
  rw[iv5]at h5
  have hall:aD8 (fun g cs=>IR (eL W) (.cp cs) (.pointer (some ⟨g, 0, none⟩))) 0 gtbl:=⟨h0, h2, h3, h4, h5, trivial⟩
  exact fun g cs h=>aD9 hall g cs h
end Go.Proofs.YtookmpaholmmfaaGreatDoor
