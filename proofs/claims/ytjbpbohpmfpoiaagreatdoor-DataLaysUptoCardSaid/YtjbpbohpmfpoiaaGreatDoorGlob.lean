/- What TM reads of the program's variables. Condition: none. -/
import Derived.Test.YtjbpbohpmfpoiaaGreatDoorTmProg
import Derived.SevenTiedAt
import Derived.Stop.Joined
import Derived.JoinedOf
import Derived.Lay
import Derived.LaidMore
set_option maxRecDepth 100000
set_option linter.unusedSimpArgs false
set_option linter.unusedVariables false
namespace Go.Proofs.YtjbpbohpmfpoiaaGreatDoor
open Go Go.TM Go.RowKit Go.ChangeShapes Go.WideShapes
theorem own:ownKnob Tryz.prog.godebug=none:=by kernel_rfl
theorem aYm:laidOutB Tryz.prog=true:=by kernel_rfl
theorem nm0 : Tryz.prog.globalNamed "unicode/utf8.first" = some 0 := by kernel_rfl
theorem ty0:(Tryz.prog.globals[0]?).map (·.type)=some 210:=by kernel_rfl
theorem nm1 : Tryz.prog.globalNamed "unicode/utf8.acceptRanges" = some 1 := by kernel_rfl
theorem ty1:(Tryz.prog.globals[1]?).map (·.type)=some 213:=by kernel_rfl
def aYn:List TypeId:=[5, 210, 211, 212, 213]
theorem bDe:aOo Tryz.prog aYn=true:=by kernel_rfl
def pP : List (String × DataW Unit) := [("unicode/utf8.acceptRanges", Rows.laid_unicode_utf8_acceptRanges), ("unicode/utf8.first", Rows.laid_unicode_utf8_first)]
theorem iv0:aGx (Rows.laid_unicode_utf8_first:DataW Unit)=g0:=by kernel_rfl
theorem iv1:aGx (Rows.laid_unicode_utf8_acceptRanges:DataW Unit)=g1:=by kernel_rfl
theorem aYo {W:World}(hL:laidMetH Tryz.prog pP W):nH K (eE W):=by
  rw[MakeChecks.laidMetH_plain _ _ _ (by kernel_rfl)]at hL
  obtain⟨ps, hv, _⟩:=hL
  have h0 := uX bDe hv "unicode/utf8.first" Rows.laid_unicode_utf8_first (by simp [pP]) 0 210 nm0 ty0 (by decide) (by kernel_rfl)
  rw[iv0]at h0
  have h1 := uX bDe hv "unicode/utf8.acceptRanges" Rows.laid_unicode_utf8_acceptRanges (by simp [pP]) 1 213 nm1 ty1 (by decide) (by kernel_rfl)
  rw[iv1]at h1
  have hall:aCe (fun g cs=>IR (eE W) (.cp cs) (.pointer (some ⟨g, 0, none⟩))) 0 gtbl:=⟨h0, h1, trivial⟩
  exact fun g cs h=>aCf hall g cs h
end Go.Proofs.YtjbpbohpmfpoiaaGreatDoor
