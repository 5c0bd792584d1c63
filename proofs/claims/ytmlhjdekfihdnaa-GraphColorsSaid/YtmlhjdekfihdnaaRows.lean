/-
  No cell of these rows narrows 'for every input' (looked for: loops, veiled, ifaces, maps, wideKeys, modest, calm, conditions, laid).
  DERIVED. THE GIVEN ROWS OF THIS SEAT. 4 by the template 'for every input the law returns true; each argument reads behind the call as it read before'; 0 by the template 'total and deterministic' (their statements: YtmlhjdekfihdnaaTotals.lean).
  GIVEN WITH THE SEED: the statements are not yours to turn. If you find one false, say at which input.
  Laid BY PROGRAM, IN A SANDBOX (cutbox-rows.mjs): the forced cells as the released guide's own fill.sh prints them over the translation e2346025fc08d9c7… (all of the seat's roots in one cut). By AI agents, Wed Nov 11 2026. No macro, syntax, notation, axiom, sorry.
-/
import Derived.Test.YtmlhjdekfihdnaaChecked
import GoSem.Claim
import GoSem.ClaimJoined
import GoSem.ClaimMapViews
import Derived.JoinedTies
import Derived.KernelRfl
namespace Go.Proofs.Ytmlhjdekfihdnaa
/- THE CELL 'sum', in the pinned program and in every row, IS THE sha256 OF THE DUMP (.gsa) THAT YtmlhjdekfihdnaaProg.lean LOADS. Nothing in Lean hashes anything: it is a label: what it is worth is what the hold of that sum in a sandbox is worth. -/
noncomputable def Try.pinned : Pinned := { name := "ytmlhjdekfihdnaa", sum := "e2346025fc08d9c76bff7b00e5f883e26101447a994b4322ebeb381c86813299", checked := Try.checked }
namespace Rows
def none {H : Type} : Left H := { results := [], args := [] }

/-- 'pennantlaw22.GraphColors': WHATEVER THE INPUT: true; the input reads as it did. -/
def graphColorsSpec : ChangeSpec := { name := "graphColors", fn := fun _ => fun
  | [d] => { results := [.lit (.bool true)], args := [d] }
  | _ => none }
def graphColorsRow : OpenClaim := { program := "ytmlhjdekfihdnaa", sum := "e2346025fc08d9c76bff7b00e5f883e26101447a994b4322ebeb381c86813299", func := "pennant/pennantlaw22.GraphColors", spec := "graphColors", unfollowed := true, recurses := true, apart := false }
def GraphColorsSaid : Prop := graphColorsRow.holds Try.pinned (OpenSpec.ofChange graphColorsSpec)

/-- ITS FALSE NEIGHBOUR: 'it returns false'. Refute it at one input. -/
def graphColorsWrong : ChangeSpec := { name := "graphColors", fn := fun _ => fun
  | [d] => { results := [.lit (.bool false)], args := [d] }
  | _ => none }
def GraphColorsWrongFalsely : Prop := graphColorsRow.holds Try.pinned (OpenSpec.ofChange graphColorsWrong)

/-- 'pennantlaw22.GraphRights': WHATEVER THE INPUT: true; the input reads as it did. -/
def graphRightsSpec : ChangeSpec := { name := "graphRights", fn := fun _ => fun
  | [d1, d2, d3] => { results := [.lit (.bool true)], args := [d1, d2, d3] }
  | _ => none }
def graphRightsRow : OpenClaim := { program := "ytmlhjdekfihdnaa", sum := "e2346025fc08d9c76bff7b00e5f883e26101447a994b4322ebeb381c86813299", func := "pennant/pennantlaw22.GraphRights", spec := "graphRights", unfollowed := true, recurses := true, apart := false }
def GraphRightsSaid : Prop := graphRightsRow.holds Try.pinned (OpenSpec.ofChange graphRightsSpec)

/-- ITS FALSE NEIGHBOUR: 'it returns false'. Refute it at one input. -/
def graphRightsWrong : ChangeSpec := { name := "graphRights", fn := fun _ => fun
  | [d1, d2, d3] => { results := [.lit (.bool false)], args := [d1, d2, d3] }
  | _ => none }
def GraphRightsWrongFalsely : Prop := graphRightsRow.holds Try.pinned (OpenSpec.ofChange graphRightsWrong)

/-- 'pennantlaw22.GraphSpills': WHATEVER THE INPUT: true; the input reads as it did. -/
def graphSpillsSpec : ChangeSpec := { name := "graphSpills", fn := fun _ => fun
  | [d1, d2] => { results := [.lit (.bool true)], args := [d1, d2] }
  | _ => none }
def graphSpillsRow : OpenClaim := { program := "ytmlhjdekfihdnaa", sum := "e2346025fc08d9c76bff7b00e5f883e26101447a994b4322ebeb381c86813299", func := "pennant/pennantlaw22.GraphSpills", spec := "graphSpills", unfollowed := true, recurses := true, apart := false }
def GraphSpillsSaid : Prop := graphSpillsRow.holds Try.pinned (OpenSpec.ofChange graphSpillsSpec)

/-- ITS FALSE NEIGHBOUR: 'it returns false'. Refute it at one input. -/
def graphSpillsWrong : ChangeSpec := { name := "graphSpills", fn := fun _ => fun
  | [d1, d2] => { results := [.lit (.bool false)], args := [d1, d2] }
  | _ => none }
def GraphSpillsWrongFalsely : Prop := graphSpillsRow.holds Try.pinned (OpenSpec.ofChange graphSpillsWrong)

/-- 'pennantlaw22.GraphKnown': WHATEVER THE INPUT: true; the input reads as it did. -/
def graphKnownSpec : ChangeSpec := { name := "graphKnown", fn := fun _ => fun
  | [] => { results := [.lit (.bool true)], args := [] }
  | _ => none }
def graphKnownRow : OpenClaim := { program := "ytmlhjdekfihdnaa", sum := "e2346025fc08d9c76bff7b00e5f883e26101447a994b4322ebeb381c86813299", func := "pennant/pennantlaw22.GraphKnown", spec := "graphKnown", unfollowed := true, recurses := true, apart := false }
def GraphKnownSaid : Prop := graphKnownRow.holds Try.pinned (OpenSpec.ofChange graphKnownSpec)

/-- ITS FALSE NEIGHBOUR: 'it returns false'. Refute it at one input. -/
def graphKnownWrong : ChangeSpec := { name := "graphKnown", fn := fun _ => fun
  | [] => { results := [.lit (.bool false)], args := [] }
  | _ => none }
def GraphKnownWrongFalsely : Prop := graphKnownRow.holds Try.pinned (OpenSpec.ofChange graphKnownWrong)

/- THE SECOND FORM. 'bulk': how many values and letters a reading holds, each counted each time it is reached (what is shared counts as often as it is met; a slice's spare places count too). A statement '..UptoSaid' is the law's where the arguments, and the package variables that the reading takes, are together of bulk at most 1048576: NARROWER than '..Said'. Prove '..Said' where nothing that the law and all that it calls make is longer than what came in: it says more and counts as full. Else prove '..UptoSaid'. A law counts once. -/
mutual
def uptoBulk {H : Type} : DataW H → Nat
  | .lit (.string bytes) => bytes.length + 1
  | .lit _ => 1
  | .nil => 1
  | .ptr d => uptoBulk d + 1
  | .slice elems spare => uptoBulkAll elems + uptoBulkAll spare + 1
  | .agg parts => uptoBulkAll parts + 1
  | .iface _ d => uptoBulk d + 1
  | .map entries => uptoBulkEntries entries + 1
  | .held _ => 1
def uptoBulkAll {H : Type} : List (DataW H) → Nat
  | [] => 0
  | d :: r => uptoBulk d + uptoBulkAll r
def uptoBulkEntries {H : Type} : List (Lit × DataW H) → Nat
  | [] => 0
  | x :: r => uptoBulkEntry x + uptoBulkEntries r
def uptoBulkEntry {H : Type} : Lit × DataW H → Nat
  | (.string bytes, d) => bytes.length + uptoBulk d + 1
  | (_, d) => uptoBulk d + 1
 end
def uptoSmall : (H : Type) → List (DataW H) → Bool := fun _ ds => decide (uptoBulkAll ds ≤ 1048576)
def OpenSpec.upto (s : _root_.Go.ChangeSpec) : _root_.Go.OpenSpec := { _root_.Go.OpenSpec.ofChange s with cond := some uptoSmall }

/-- 'pennantlaw22.GraphColors', WHERE WHAT IT READS IS OF BULK AT MOST 1048576: true; the input reads as it did. -/
def graphColorsUptoRow : OpenClaim := { program := "ytmlhjdekfihdnaa", sum := "e2346025fc08d9c76bff7b00e5f883e26101447a994b4322ebeb381c86813299", func := "pennant/pennantlaw22.GraphColors", spec := "graphColors", unfollowed := true, recurses := true, apart := false, narrowed := true }
def GraphColorsUptoSaid : Prop := graphColorsUptoRow.holds Try.pinned (OpenSpec.upto graphColorsSpec)

/-- 'pennantlaw22.GraphRights', WHERE WHAT IT READS IS OF BULK AT MOST 1048576: true; the input reads as it did. -/
def graphRightsUptoRow : OpenClaim := { program := "ytmlhjdekfihdnaa", sum := "e2346025fc08d9c76bff7b00e5f883e26101447a994b4322ebeb381c86813299", func := "pennant/pennantlaw22.GraphRights", spec := "graphRights", unfollowed := true, recurses := true, apart := false, narrowed := true }
def GraphRightsUptoSaid : Prop := graphRightsUptoRow.holds Try.pinned (OpenSpec.upto graphRightsSpec)

/-- 'pennantlaw22.GraphSpills', WHERE WHAT IT READS IS OF BULK AT MOST 1048576: true; the input reads as it did. -/
def graphSpillsUptoRow : OpenClaim := { program := "ytmlhjdekfihdnaa", sum := "e2346025fc08d9c76bff7b00e5f883e26101447a994b4322ebeb381c86813299", func := "pennant/pennantlaw22.GraphSpills", spec := "graphSpills", unfollowed := true, recurses := true, apart := false, narrowed := true }
def GraphSpillsUptoSaid : Prop := graphSpillsUptoRow.holds Try.pinned (OpenSpec.upto graphSpillsSpec)

/-- 'pennantlaw22.GraphKnown', WHERE WHAT IT READS IS OF BULK AT MOST 1048576: true; the input reads as it did. -/
def graphKnownUptoRow : OpenClaim := { program := "ytmlhjdekfihdnaa", sum := "e2346025fc08d9c76bff7b00e5f883e26101447a994b4322ebeb381c86813299", func := "pennant/pennantlaw22.GraphKnown", spec := "graphKnown", unfollowed := true, recurses := true, apart := false, narrowed := true }
def GraphKnownUptoSaid : Prop := graphKnownUptoRow.holds Try.pinned (OpenSpec.upto graphKnownSpec)

end Rows
end Go.Proofs.Ytmlhjdekfihdnaa
