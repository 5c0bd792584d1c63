/- What TM reads of the program's variables. Condition: none. -/
import Derived.Test.YtmlhjdekfihdnaaGreatDoorTmProg
import Derived.SevenTiedAt
import Derived.Stop.Joined
import Derived.JoinedOf
import Derived.Lay
import Derived.LaidMore
set_option maxRecDepth 100000
set_option linter.unusedSimpArgs false
set_option linter.unusedVariables false
namespace Go.Proofs.YtmlhjdekfihdnaaGreatDoor
open Go Go.TM Go.RowKit Go.ChangeShapes Go.WideShapes
theorem own:ownKnob Tryz.prog.godebug=none:=by kernel_rfl
theorem bBm:laidOutB Tryz.prog=true:=by kernel_rfl
theorem nm0 : Tryz.prog.globalNamed "math/bits.deBruijn64tab" = some 0 := by kernel_rfl
theorem ty0:(Tryz.prog.globals[0]?).map (·.type)=some 129:=by kernel_rfl
def bBn:List TypeId:=[5, 129]
theorem bJs:aQ7 Tryz.prog bBn=true:=by kernel_rfl
def qT : List (String × DataW Unit) := [("math/bits.deBruijn64tab", Rows.laid_math_bits_deBruijn64tab)]
theorem iv0:aLl (Rows.laid_math_bits_deBruijn64tab:DataW Unit)=g0:=by kernel_rfl
theorem bBo {W:World}(hL:laidMetH Tryz.prog qT W):oL K (eF W):=by
  rw[MakeChecks.laidMetH_plain _ _ _ (by kernel_rfl)]at hL
  obtain⟨ps, hv, _⟩:=hL
  have h0 := aDt bJs hv "math/bits.deBruijn64tab" Rows.laid_math_bits_deBruijn64tab (by simp [qT]) 0 129 nm0 ty0 (by decide) (by kernel_rfl)
  rw[iv0]at h0
  have hall:aDv (fun g cs=>IR (eF W) (.cp cs) (.pointer (some ⟨g, 0, none⟩))) 0 gtbl:=⟨h0, trivial⟩
  exact fun g cs h=>aDw hall g cs h
end Go.Proofs.YtmlhjdekfihdnaaGreatDoor
