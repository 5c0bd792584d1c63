/- What TM reads of the program's variables. Condition: none. -/
import Derived.Test.YtageemgcnoblnaaDoorTmProg
import Derived.SevenTiedAt
import Derived.Stop.Joined
import Derived.JoinedOf
import Derived.Lay
import Derived.LaidMore
set_option maxRecDepth 100000
set_option linter.unusedSimpArgs false
set_option linter.unusedVariables false
namespace Go.Proofs.YtageemgcnoblnaaDoor
open Go Go.TM Go.RowKit Go.ChangeShapes Go.WideShapes
theorem own:ownKnob Tryd.prog.godebug=none:=by kernel_rfl
theorem bCc:laidOutB Tryd.prog=true:=by kernel_rfl
theorem nm0 : Tryd.prog.globalNamed "unicode/utf8.first" = some 0 := by kernel_rfl
theorem ty0:(Tryd.prog.globals[0]?).map (·.type)=some 207:=by kernel_rfl
theorem nm1 : Tryd.prog.globalNamed "unicode/utf8.acceptRanges" = some 1 := by kernel_rfl
theorem ty1:(Tryd.prog.globals[1]?).map (·.type)=some 210:=by kernel_rfl
def bCd:List TypeId:=[5, 207, 208, 209, 210]
theorem bGk:aSb Tryd.prog bCd=true:=by kernel_rfl
def tA : List (String × DataW Unit) := [("unicode/utf8.acceptRanges", Rows.laid_unicode_utf8_acceptRanges), ("unicode/utf8.first", Rows.laid_unicode_utf8_first)]
theorem iv0:aJ0 (Rows.laid_unicode_utf8_first:DataW Unit)=g0:=by kernel_rfl
theorem iv1:aJ0 (Rows.laid_unicode_utf8_acceptRanges:DataW Unit)=g1:=by kernel_rfl
theorem bCe {W:World}(hL:laidMetH Tryd.prog tA W):qO K (eV W):=by
  rw[MakeChecks.laidMetH_plain _ _ _ (by kernel_rfl)]at hL
  obtain⟨ps, hv, _⟩:=hL
  have h0 := yI bGk hv "unicode/utf8.first" Rows.laid_unicode_utf8_first (by simp [tA]) 0 207 nm0 ty0 (by decide) (by kernel_rfl)
  rw[iv0]at h0
  have h1 := yI bGk hv "unicode/utf8.acceptRanges" Rows.laid_unicode_utf8_acceptRanges (by simp [tA]) 1 210 nm1 ty1 (by decide) (by kernel_rfl)
  rw[iv1]at h1
  have hall:aFj (fun g cs=>IR (eV W) (.cp cs) (.pointer (some ⟨g, 0, none⟩))) 0 gtbl:=⟨h0, h1, trivial⟩
  exact fun g cs h=>aFk hall g cs h
end Go.Proofs.YtageemgcnoblnaaDoor
