/-
  NARROWER THAN 'FOR EVERY INPUT', by the rows' own cells (each row's printed sentence says how): CpsConverts: loops, laid · CpsLambdas: loops, laid · CpsKnown: laid · CpsRight: loops, laid.
  DERIVED. THE GIVEN ROWS OF THIS SEAT. 4 by the template 'for every input the law returns true; each argument reads behind the call as it read before'; 0 by the template 'total and deterministic' (their statements: YtageemgcnoblnaaDoorTotals.lean).
  GIVEN WITH THE SEED: the statements are not yours to turn. If you find one false, say at which input.
  Laid BY PROGRAM, IN A SANDBOX (cutbox-rows.mjs): the forced cells as the released guide's own fill.sh prints them over the translation e3c1bf477105e820… (all of the seat's roots in one cut). By AI agents, Wed Nov 11 2026. No macro, syntax, notation, axiom, sorry.
-/
import Derived.Test.YtageemgcnoblnaaDoorChecked
import GoSem.PinnedTables
import GoSem.Claim
import GoSem.ClaimJoined
import GoSem.ClaimMapViews
import Derived.JoinedTies
import Derived.KernelRfl
namespace Go.Proofs.YtageemgcnoblnaaDoor
/- THE CELL 'sum', in the pinned program and in every row, IS THE sha256 OF THE DUMP (.gsa) THAT YtageemgcnoblnaaDoorProg.lean LOADS. Nothing in Lean hashes anything: it is a label: what it is worth is what the hold of that sum in a sandbox is worth. -/
noncomputable def Tryd.pinned : Pinned := { name := "ytageemgcnoblnaadoor", sum := "e3c1bf477105e82032bc6cdc82c37e88b0d3393402d94c1caa7711c4d6586807", checked := Tryd.checked }
namespace Rows
def none {H : Type} : Left H := { results := [], args := [] }

/- WHAT THE LISTED PACKAGE-LEVEL VARIABLES READ AS WHEN THE CALL BEGINS. Each datum BY PROGRAM (the guide's laid-datum.mjs) off the statement by which the dump's own 'gosem.cut.vars' lays the variable. In a bare row this is a premise. The card (YtageemgcnoblnaaDoorCards.lean) ties it to the program's text. -/
def laid_unicode_utf8_acceptRanges {H : Type} : DataW H := .agg [.agg [.lit (.int .u8 128), .lit (.int .u8 191)], .agg [.lit (.int .u8 160), .lit (.int .u8 191)], .agg [.lit (.int .u8 128), .lit (.int .u8 159)], .agg [.lit (.int .u8 144), .lit (.int .u8 191)], .agg [.lit (.int .u8 128), .lit (.int .u8 143)], .agg [.lit (.int .u8 0), .lit (.int .u8 0)], .agg [.lit (.int .u8 0), .lit (.int .u8 0)], .agg [.lit (.int .u8 0), .lit (.int .u8 0)], .agg [.lit (.int .u8 0), .lit (.int .u8 0)], .agg [.lit (.int .u8 0), .lit (.int .u8 0)], .agg [.lit (.int .u8 0), .lit (.int .u8 0)], .agg [.lit (.int .u8 0), .lit (.int .u8 0)], .agg [.lit (.int .u8 0), .lit (.int .u8 0)], .agg [.lit (.int .u8 0), .lit (.int .u8 0)], .agg [.lit (.int .u8 0), .lit (.int .u8 0)], .agg [.lit (.int .u8 0), .lit (.int .u8 0)]]
/-- One of Go's own tables, pinned by name: the form's constant. -/
def laid_unicode_utf8_first : DataW Unit := Go.Pinned.utf8First

/-- 'pennantlaw16.CpsConverts': WHATEVER THE INPUT: true; the input reads as it did. -/
def cpsConvertsSpec : ChangeSpec := { name := "cpsConverts", fn := fun _ => fun
  | [d] => { results := [.lit (.bool true)], args := [d] }
  | _ => none }
def cpsConvertsRow : OpenClaim := { program := "ytageemgcnoblnaadoor", sum := "e3c1bf477105e82032bc6cdc82c37e88b0d3393402d94c1caa7711c4d6586807", func := "pennant/pennantlaw16.CpsConverts", spec := "cpsConverts", unfollowed := true, recurses := true, named := ["unicode/utf8.first", "unicode/utf8.acceptRanges"], loops := true, apart := false, laid := [("unicode/utf8.acceptRanges", laid_unicode_utf8_acceptRanges), ("unicode/utf8.first", laid_unicode_utf8_first)] }
def CpsConvertsSaid : Prop := cpsConvertsRow.holds Tryd.pinned (OpenSpec.ofChange cpsConvertsSpec)

/-- ITS FALSE NEIGHBOUR: 'it returns false'. Refute it at one input. -/
def cpsConvertsWrong : ChangeSpec := { name := "cpsConverts", fn := fun _ => fun
  | [d] => { results := [.lit (.bool false)], args := [d] }
  | _ => none }
def CpsConvertsWrongFalsely : Prop := cpsConvertsRow.holds Tryd.pinned (OpenSpec.ofChange cpsConvertsWrong)

/-- 'pennantlaw16.CpsLambdas': WHATEVER THE INPUT: true; the input reads as it did. -/
def cpsLambdasSpec : ChangeSpec := { name := "cpsLambdas", fn := fun _ => fun
  | [d] => { results := [.lit (.bool true)], args := [d] }
  | _ => none }
def cpsLambdasRow : OpenClaim := { program := "ytageemgcnoblnaadoor", sum := "e3c1bf477105e82032bc6cdc82c37e88b0d3393402d94c1caa7711c4d6586807", func := "pennant/pennantlaw16.CpsLambdas", spec := "cpsLambdas", unfollowed := true, recurses := true, named := ["unicode/utf8.first", "unicode/utf8.acceptRanges"], loops := true, apart := false, laid := [("unicode/utf8.acceptRanges", laid_unicode_utf8_acceptRanges), ("unicode/utf8.first", laid_unicode_utf8_first)] }
def CpsLambdasSaid : Prop := cpsLambdasRow.holds Tryd.pinned (OpenSpec.ofChange cpsLambdasSpec)

/-- ITS FALSE NEIGHBOUR: 'it returns false'. Refute it at one input. -/
def cpsLambdasWrong : ChangeSpec := { name := "cpsLambdas", fn := fun _ => fun
  | [d] => { results := [.lit (.bool false)], args := [d] }
  | _ => none }
def CpsLambdasWrongFalsely : Prop := cpsLambdasRow.holds Tryd.pinned (OpenSpec.ofChange cpsLambdasWrong)

/-- 'pennantlaw16.CpsKnown': WHATEVER THE INPUT: true; the input reads as it did. -/
def cpsKnownSpec : ChangeSpec := { name := "cpsKnown", fn := fun _ => fun
  | [] => { results := [.lit (.bool true)], args := [] }
  | _ => none }
def cpsKnownRow : OpenClaim := { program := "ytageemgcnoblnaadoor", sum := "e3c1bf477105e82032bc6cdc82c37e88b0d3393402d94c1caa7711c4d6586807", func := "pennant/pennantlaw16.CpsKnown", spec := "cpsKnown", unfollowed := true, recurses := true, named := ["unicode/utf8.first", "unicode/utf8.acceptRanges"], apart := false, laid := [("unicode/utf8.acceptRanges", laid_unicode_utf8_acceptRanges), ("unicode/utf8.first", laid_unicode_utf8_first)] }
def CpsKnownSaid : Prop := cpsKnownRow.holds Tryd.pinned (OpenSpec.ofChange cpsKnownSpec)

/-- ITS FALSE NEIGHBOUR: 'it returns false'. Refute it at one input. -/
def cpsKnownWrong : ChangeSpec := { name := "cpsKnown", fn := fun _ => fun
  | [] => { results := [.lit (.bool false)], args := [] }
  | _ => none }
def CpsKnownWrongFalsely : Prop := cpsKnownRow.holds Tryd.pinned (OpenSpec.ofChange cpsKnownWrong)

/-- 'pennantlaw16.CpsRight': WHATEVER THE INPUT: true; the input reads as it did. -/
def cpsRightSpec : ChangeSpec := { name := "cpsRight", fn := fun _ => fun
  | [d] => { results := [.lit (.bool true)], args := [d] }
  | _ => none }
def cpsRightRow : OpenClaim := { program := "ytageemgcnoblnaadoor", sum := "e3c1bf477105e82032bc6cdc82c37e88b0d3393402d94c1caa7711c4d6586807", func := "pennant/pennantlaw16.CpsRight", spec := "cpsRight", unfollowed := true, recurses := true, named := ["unicode/utf8.first", "unicode/utf8.acceptRanges"], loops := true, apart := false, laid := [("unicode/utf8.acceptRanges", laid_unicode_utf8_acceptRanges), ("unicode/utf8.first", laid_unicode_utf8_first)] }
def CpsRightSaid : Prop := cpsRightRow.holds Tryd.pinned (OpenSpec.ofChange cpsRightSpec)

/-- ITS FALSE NEIGHBOUR: 'it returns false'. Refute it at one input. -/
def cpsRightWrong : ChangeSpec := { name := "cpsRight", fn := fun _ => fun
  | [d] => { results := [.lit (.bool false)], args := [d] }
  | _ => none }
def CpsRightWrongFalsely : Prop := cpsRightRow.holds Tryd.pinned (OpenSpec.ofChange cpsRightWrong)

/- THE SECOND FORM. 'bulk': how many values and letters a reading holds, each counted each time it is reached (what is shared counts as often as it is met; a slice's spare places count too). A statement '..UptoSaid' is the law's where the arguments, and the package variables that the reading takes, are together of bulk at most 1048576: NARROWER than '..Said'. Prove '..Said' where nothing that the law and all that it calls make is longer than what came in: it says more and counts as full. Else prove '..UptoSaid'. A law counts once. -/
mutual
def uptoBulk {H : Type} : DataW H → Nat
  | .lit (.string bytes) => bytes.length + 1
  | .lit _ => 1
  | .nil => 1
  | .ptr d => uptoBulk d + 1
  | .slice elems spare => uptoBulkAll elems + uptoBulkAll spare + 1
  | .agg parts => uptoBulkAll parts + 1
  | .iface _ d => uptoBulk d + 1
  | .map entries => uptoBulkEntries entries + 1
  | .held _ => 1
def uptoBulkAll {H : Type} : List (DataW H) → Nat
  | [] => 0
  | d :: r => uptoBulk d + uptoBulkAll r
def uptoBulkEntries {H : Type} : List (Lit × DataW H) → Nat
  | [] => 0
  | x :: r => uptoBulkEntry x + uptoBulkEntries r
def uptoBulkEntry {H : Type} : Lit × DataW H → Nat
  | (.string bytes, d) => bytes.length + uptoBulk d + 1
  | (_, d) => uptoBulk d + 1
 end
def uptoSmall : (H : Type) → List (DataW H) → Bool := fun _ ds => decide (uptoBulkAll ds ≤ 1048576)
def OpenSpec.upto (s : _root_.Go.ChangeSpec) : _root_.Go.OpenSpec := { _root_.Go.OpenSpec.ofChange s with cond := some uptoSmall }

/-- 'pennantlaw16.CpsConverts', WHERE WHAT IT READS IS OF BULK AT MOST 1048576: true; the input reads as it did. -/
def cpsConvertsUptoRow : OpenClaim := { program := "ytageemgcnoblnaadoor", sum := "e3c1bf477105e82032bc6cdc82c37e88b0d3393402d94c1caa7711c4d6586807", func := "pennant/pennantlaw16.CpsConverts", spec := "cpsConverts", unfollowed := true, recurses := true, named := ["unicode/utf8.first", "unicode/utf8.acceptRanges"], loops := true, apart := false, laid := [("unicode/utf8.acceptRanges", laid_unicode_utf8_acceptRanges), ("unicode/utf8.first", laid_unicode_utf8_first)], narrowed := true }
def CpsConvertsUptoSaid : Prop := cpsConvertsUptoRow.holds Tryd.pinned (OpenSpec.upto cpsConvertsSpec)

/-- 'pennantlaw16.CpsLambdas', WHERE WHAT IT READS IS OF BULK AT MOST 1048576: true; the input reads as it did. -/
def cpsLambdasUptoRow : OpenClaim := { program := "ytageemgcnoblnaadoor", sum := "e3c1bf477105e82032bc6cdc82c37e88b0d3393402d94c1caa7711c4d6586807", func := "pennant/pennantlaw16.CpsLambdas", spec := "cpsLambdas", unfollowed := true, recurses := true, named := ["unicode/utf8.first", "unicode/utf8.acceptRanges"], loops := true, apart := false, laid := [("unicode/utf8.acceptRanges", laid_unicode_utf8_acceptRanges), ("unicode/utf8.first", laid_unicode_utf8_first)], narrowed := true }
def CpsLambdasUptoSaid : Prop := cpsLambdasUptoRow.holds Tryd.pinned (OpenSpec.upto cpsLambdasSpec)

/-- 'pennantlaw16.CpsKnown', WHERE WHAT IT READS IS OF BULK AT MOST 1048576: true; the input reads as it did. -/
def cpsKnownUptoRow : OpenClaim := { program := "ytageemgcnoblnaadoor", sum := "e3c1bf477105e82032bc6cdc82c37e88b0d3393402d94c1caa7711c4d6586807", func := "pennant/pennantlaw16.CpsKnown", spec := "cpsKnown", unfollowed := true, recurses := true, named := ["unicode/utf8.first", "unicode/utf8.acceptRanges"], apart := false, laid := [("unicode/utf8.acceptRanges", laid_unicode_utf8_acceptRanges), ("unicode/utf8.first", laid_unicode_utf8_first)], narrowed := true }
def CpsKnownUptoSaid : Prop := cpsKnownUptoRow.holds Tryd.pinned (OpenSpec.upto cpsKnownSpec)

/-- 'pennantlaw16.CpsRight', WHERE WHAT IT READS IS OF BULK AT MOST 1048576: true; the input reads as it did. -/
def cpsRightUptoRow : OpenClaim := { program := "ytageemgcnoblnaadoor", sum := "e3c1bf477105e82032bc6cdc82c37e88b0d3393402d94c1caa7711c4d6586807", func := "pennant/pennantlaw16.CpsRight", spec := "cpsRight", unfollowed := true, recurses := true, named := ["unicode/utf8.first", "unicode/utf8.acceptRanges"], loops := true, apart := false, laid := [("unicode/utf8.acceptRanges", laid_unicode_utf8_acceptRanges), ("unicode/utf8.first", laid_unicode_utf8_first)], narrowed := true }
def CpsRightUptoSaid : Prop := cpsRightUptoRow.holds Tryd.pinned (OpenSpec.upto cpsRightSpec)

end Rows
end Go.Proofs.YtageemgcnoblnaaDoor
