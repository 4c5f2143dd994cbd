/-
  No cell of these rows narrows 'for every input' (looked for: loops, veiled, ifaces, maps, wideKeys, modest, calm, conditions, laid).
  DERIVED. THE GIVEN ROWS OF THIS SEAT. 7 by the template 'for every input the law returns true; each argument reads behind the call as it read before'; 0 by the template 'total and deterministic' (their statements: YtdflamblbhpngaaTotals.lean).
  GIVEN WITH THE SEED: the statements are not yours to turn. If you find one false, say at which input.
  Laid BY PROGRAM, IN A SANDBOX (cutbox-rows.mjs): the forced cells as the released guide's own fill.sh prints them over the translation 7a386c9d07d918ad… (all of the seat's roots in one cut). By AI agents, Wed Nov 11 2026. No macro, syntax, notation, axiom, sorry.
-/
import Derived.Test.YtdflamblbhpngaaChecked
import GoSem.Claim
import GoSem.ClaimJoined
import GoSem.ClaimMapViews
import Derived.JoinedTies
import Derived.KernelRfl
namespace Go.Proofs.Ytdflamblbhpngaa
/- THE CELL 'sum', in the pinned program and in every row, IS THE sha256 OF THE DUMP (.gsa) THAT YtdflamblbhpngaaProg.lean LOADS. Nothing in Lean hashes anything: it is a label: what it is worth is what the hold of that sum in a sandbox is worth. -/
noncomputable def Try.pinned : Pinned := { name := "ytdflamblbhpngaa", sum := "7a386c9d07d918ad4e8bd1e3a377ac8f87ccb6d3a90cf61e5ee2ff51b0f6ec5f", checked := Try.checked }
namespace Rows
def none {H : Type} : Left H := { results := [], args := [] }

/-- 'clearwaylaw16.GeometryApproach': WHATEVER THE INPUT: true; the input reads as it did. -/
def geometryApproachSpec : ChangeSpec := { name := "geometryApproach", fn := fun _ => fun
  | [d1, d2, d3] => { results := [.lit (.bool true)], args := [d1, d2, d3] }
  | _ => none }
def geometryApproachRow : OpenClaim := { program := "ytdflamblbhpngaa", sum := "7a386c9d07d918ad4e8bd1e3a377ac8f87ccb6d3a90cf61e5ee2ff51b0f6ec5f", func := "clearway/clearwaylaw16.GeometryApproach", spec := "geometryApproach", unfollowed := true, recurses := true, apart := false }
def GeometryApproachSaid : Prop := geometryApproachRow.holds Try.pinned (OpenSpec.ofChange geometryApproachSpec)

/-- ITS FALSE NEIGHBOUR: 'it returns false'. Refute it at one input. -/
def geometryApproachWrong : ChangeSpec := { name := "geometryApproach", fn := fun _ => fun
  | [d1, d2, d3] => { results := [.lit (.bool false)], args := [d1, d2, d3] }
  | _ => none }
def GeometryApproachWrongFalsely : Prop := geometryApproachRow.holds Try.pinned (OpenSpec.ofChange geometryApproachWrong)

/-- 'clearwaylaw16.GeometryBounds': WHATEVER THE INPUT: true; the input reads as it did. -/
def geometryBoundsSpec : ChangeSpec := { name := "geometryBounds", fn := fun _ => fun
  | [d1, d2, d3, d4] => { results := [.lit (.bool true)], args := [d1, d2, d3, d4] }
  | _ => none }
def geometryBoundsRow : OpenClaim := { program := "ytdflamblbhpngaa", sum := "7a386c9d07d918ad4e8bd1e3a377ac8f87ccb6d3a90cf61e5ee2ff51b0f6ec5f", func := "clearway/clearwaylaw16.GeometryBounds", spec := "geometryBounds", unfollowed := true, recurses := true, apart := false }
def GeometryBoundsSaid : Prop := geometryBoundsRow.holds Try.pinned (OpenSpec.ofChange geometryBoundsSpec)

/-- ITS FALSE NEIGHBOUR: 'it returns false'. Refute it at one input. -/
def geometryBoundsWrong : ChangeSpec := { name := "geometryBounds", fn := fun _ => fun
  | [d1, d2, d3, d4] => { results := [.lit (.bool false)], args := [d1, d2, d3, d4] }
  | _ => none }
def GeometryBoundsWrongFalsely : Prop := geometryBoundsRow.holds Try.pinned (OpenSpec.ofChange geometryBoundsWrong)

/-- 'clearwaylaw16.GeometryTurns': WHATEVER THE INPUT: true; the input reads as it did. -/
def geometryTurnsSpec : ChangeSpec := { name := "geometryTurns", fn := fun _ => fun
  | [d1, d2, d3] => { results := [.lit (.bool true)], args := [d1, d2, d3] }
  | _ => none }
def geometryTurnsRow : OpenClaim := { program := "ytdflamblbhpngaa", sum := "7a386c9d07d918ad4e8bd1e3a377ac8f87ccb6d3a90cf61e5ee2ff51b0f6ec5f", func := "clearway/clearwaylaw16.GeometryTurns", spec := "geometryTurns", unfollowed := true, recurses := true, apart := false }
def GeometryTurnsSaid : Prop := geometryTurnsRow.holds Try.pinned (OpenSpec.ofChange geometryTurnsSpec)

/-- ITS FALSE NEIGHBOUR: 'it returns false'. Refute it at one input. -/
def geometryTurnsWrong : ChangeSpec := { name := "geometryTurns", fn := fun _ => fun
  | [d1, d2, d3] => { results := [.lit (.bool false)], args := [d1, d2, d3] }
  | _ => none }
def GeometryTurnsWrongFalsely : Prop := geometryTurnsRow.holds Try.pinned (OpenSpec.ofChange geometryTurnsWrong)

/-- 'clearwaylaw16.GeometryExact': WHATEVER THE INPUT: true; the input reads as it did. -/
def geometryExactSpec : ChangeSpec := { name := "geometryExact", fn := fun _ => fun
  | [d1, d2, d3] => { results := [.lit (.bool true)], args := [d1, d2, d3] }
  | _ => none }
def geometryExactRow : OpenClaim := { program := "ytdflamblbhpngaa", sum := "7a386c9d07d918ad4e8bd1e3a377ac8f87ccb6d3a90cf61e5ee2ff51b0f6ec5f", func := "clearway/clearwaylaw16.GeometryExact", spec := "geometryExact", unfollowed := true, recurses := true, apart := false }
def GeometryExactSaid : Prop := geometryExactRow.holds Try.pinned (OpenSpec.ofChange geometryExactSpec)

/-- ITS FALSE NEIGHBOUR: 'it returns false'. Refute it at one input. -/
def geometryExactWrong : ChangeSpec := { name := "geometryExact", fn := fun _ => fun
  | [d1, d2, d3] => { results := [.lit (.bool false)], args := [d1, d2, d3] }
  | _ => none }
def GeometryExactWrongFalsely : Prop := geometryExactRow.holds Try.pinned (OpenSpec.ofChange geometryExactWrong)

/-- 'clearwaylaw16.GeometryMatches': WHATEVER THE INPUT: true; the input reads as it did. -/
def geometryMatchesSpec : ChangeSpec := { name := "geometryMatches", fn := fun _ => fun
  | [d1, d2, d3, d4] => { results := [.lit (.bool true)], args := [d1, d2, d3, d4] }
  | _ => none }
def geometryMatchesRow : OpenClaim := { program := "ytdflamblbhpngaa", sum := "7a386c9d07d918ad4e8bd1e3a377ac8f87ccb6d3a90cf61e5ee2ff51b0f6ec5f", func := "clearway/clearwaylaw16.GeometryMatches", spec := "geometryMatches", unfollowed := true, recurses := true, apart := false }
def GeometryMatchesSaid : Prop := geometryMatchesRow.holds Try.pinned (OpenSpec.ofChange geometryMatchesSpec)

/-- ITS FALSE NEIGHBOUR: 'it returns false'. Refute it at one input. -/
def geometryMatchesWrong : ChangeSpec := { name := "geometryMatches", fn := fun _ => fun
  | [d1, d2, d3, d4] => { results := [.lit (.bool false)], args := [d1, d2, d3, d4] }
  | _ => none }
def GeometryMatchesWrongFalsely : Prop := geometryMatchesRow.holds Try.pinned (OpenSpec.ofChange geometryMatchesWrong)

/-- 'clearwaylaw16.GeometryMoves': WHATEVER THE INPUT: true; the input reads as it did. -/
def geometryMovesSpec : ChangeSpec := { name := "geometryMoves", fn := fun _ => fun
  | [d1, d2, d3] => { results := [.lit (.bool true)], args := [d1, d2, d3] }
  | _ => none }
def geometryMovesRow : OpenClaim := { program := "ytdflamblbhpngaa", sum := "7a386c9d07d918ad4e8bd1e3a377ac8f87ccb6d3a90cf61e5ee2ff51b0f6ec5f", func := "clearway/clearwaylaw16.GeometryMoves", spec := "geometryMoves", unfollowed := true, recurses := true, apart := false }
def GeometryMovesSaid : Prop := geometryMovesRow.holds Try.pinned (OpenSpec.ofChange geometryMovesSpec)

/-- ITS FALSE NEIGHBOUR: 'it returns false'. Refute it at one input. -/
def geometryMovesWrong : ChangeSpec := { name := "geometryMoves", fn := fun _ => fun
  | [d1, d2, d3] => { results := [.lit (.bool false)], args := [d1, d2, d3] }
  | _ => none }
def GeometryMovesWrongFalsely : Prop := geometryMovesRow.holds Try.pinned (OpenSpec.ofChange geometryMovesWrong)

/-- 'clearwaylaw16.GeometryExamples': WHATEVER THE INPUT: true; the input reads as it did. -/
def geometryExamplesSpec : ChangeSpec := { name := "geometryExamples", fn := fun _ => fun
  | [] => { results := [.lit (.bool true)], args := [] }
  | _ => none }
def geometryExamplesRow : OpenClaim := { program := "ytdflamblbhpngaa", sum := "7a386c9d07d918ad4e8bd1e3a377ac8f87ccb6d3a90cf61e5ee2ff51b0f6ec5f", func := "clearway/clearwaylaw16.GeometryExamples", spec := "geometryExamples", unfollowed := true, recurses := true, apart := false }
def GeometryExamplesSaid : Prop := geometryExamplesRow.holds Try.pinned (OpenSpec.ofChange geometryExamplesSpec)

/-- ITS FALSE NEIGHBOUR: 'it returns false'. Refute it at one input. -/
def geometryExamplesWrong : ChangeSpec := { name := "geometryExamples", fn := fun _ => fun
  | [] => { results := [.lit (.bool false)], args := [] }
  | _ => none }
def GeometryExamplesWrongFalsely : Prop := geometryExamplesRow.holds Try.pinned (OpenSpec.ofChange geometryExamplesWrong)

/- THE SECOND FORM. 'bulk': how many values and letters a reading holds, each counted each time it is reached (what is shared counts as often as it is met; a slice's spare places count too). A statement '..UptoSaid' is the law's where the arguments, and the package variables that the reading takes, are together of bulk at most 1048576: NARROWER than '..Said'. Prove '..Said' where nothing that the law and all that it calls make is longer than what came in: it says more and counts as full. Else prove '..UptoSaid'. A law counts once. -/
mutual
def uptoBulk {H : Type} : DataW H → Nat
  | .lit (.string bytes) => bytes.length + 1
  | .lit _ => 1
  | .nil => 1
  | .ptr d => uptoBulk d + 1
  | .slice elems spare => uptoBulkAll elems + uptoBulkAll spare + 1
  | .agg parts => uptoBulkAll parts + 1
  | .iface _ d => uptoBulk d + 1
  | .map entries => uptoBulkEntries entries + 1
  | .held _ => 1
def uptoBulkAll {H : Type} : List (DataW H) → Nat
  | [] => 0
  | d :: r => uptoBulk d + uptoBulkAll r
def uptoBulkEntries {H : Type} : List (Lit × DataW H) → Nat
  | [] => 0
  | x :: r => uptoBulkEntry x + uptoBulkEntries r
def uptoBulkEntry {H : Type} : Lit × DataW H → Nat
  | (.string bytes, d) => bytes.length + uptoBulk d + 1
  | (_, d) => uptoBulk d + 1
 end
def uptoSmall : (H : Type) → List (DataW H) → Bool := fun _ ds => decide (uptoBulkAll ds ≤ 1048576)
def OpenSpec.upto (s : _root_.Go.ChangeSpec) : _root_.Go.OpenSpec := { _root_.Go.OpenSpec.ofChange s with cond := some uptoSmall }

/-- 'clearwaylaw16.GeometryApproach', WHERE WHAT IT READS IS OF BULK AT MOST 1048576: true; the input reads as it did. -/
def geometryApproachUptoRow : OpenClaim := { program := "ytdflamblbhpngaa", sum := "7a386c9d07d918ad4e8bd1e3a377ac8f87ccb6d3a90cf61e5ee2ff51b0f6ec5f", func := "clearway/clearwaylaw16.GeometryApproach", spec := "geometryApproach", unfollowed := true, recurses := true, apart := false, narrowed := true }
def GeometryApproachUptoSaid : Prop := geometryApproachUptoRow.holds Try.pinned (OpenSpec.upto geometryApproachSpec)

/-- 'clearwaylaw16.GeometryBounds', WHERE WHAT IT READS IS OF BULK AT MOST 1048576: true; the input reads as it did. -/
def geometryBoundsUptoRow : OpenClaim := { program := "ytdflamblbhpngaa", sum := "7a386c9d07d918ad4e8bd1e3a377ac8f87ccb6d3a90cf61e5ee2ff51b0f6ec5f", func := "clearway/clearwaylaw16.GeometryBounds", spec := "geometryBounds", unfollowed := true, recurses := true, apart := false, narrowed := true }
def GeometryBoundsUptoSaid : Prop := geometryBoundsUptoRow.holds Try.pinned (OpenSpec.upto geometryBoundsSpec)

/-- 'clearwaylaw16.GeometryTurns', WHERE WHAT IT READS IS OF BULK AT MOST 1048576: true; the input reads as it did. -/
def geometryTurnsUptoRow : OpenClaim := { program := "ytdflamblbhpngaa", sum := "7a386c9d07d918ad4e8bd1e3a377ac8f87ccb6d3a90cf61e5ee2ff51b0f6ec5f", func := "clearway/clearwaylaw16.GeometryTurns", spec := "geometryTurns", unfollowed := true, recurses := true, apart := false, narrowed := true }
def GeometryTurnsUptoSaid : Prop := geometryTurnsUptoRow.holds Try.pinned (OpenSpec.upto geometryTurnsSpec)

/-- 'clearwaylaw16.GeometryExact', WHERE WHAT IT READS IS OF BULK AT MOST 1048576: true; the input reads as it did. -/
def geometryExactUptoRow : OpenClaim := { program := "ytdflamblbhpngaa", sum := "7a386c9d07d918ad4e8bd1e3a377ac8f87ccb6d3a90cf61e5ee2ff51b0f6ec5f", func := "clearway/clearwaylaw16.GeometryExact", spec := "geometryExact", unfollowed := true, recurses := true, apart := false, narrowed := true }
def GeometryExactUptoSaid : Prop := geometryExactUptoRow.holds Try.pinned (OpenSpec.upto geometryExactSpec)

/-- 'clearwaylaw16.GeometryMatches', WHERE WHAT IT READS IS OF BULK AT MOST 1048576: true; the input reads as it did. -/
def geometryMatchesUptoRow : OpenClaim := { program := "ytdflamblbhpngaa", sum := "7a386c9d07d918ad4e8bd1e3a377ac8f87ccb6d3a90cf61e5ee2ff51b0f6ec5f", func := "clearway/clearwaylaw16.GeometryMatches", spec := "geometryMatches", unfollowed := true, recurses := true, apart := false, narrowed := true }
def GeometryMatchesUptoSaid : Prop := geometryMatchesUptoRow.holds Try.pinned (OpenSpec.upto geometryMatchesSpec)

/-- 'clearwaylaw16.GeometryMoves', WHERE WHAT IT READS IS OF BULK AT MOST 1048576: true; the input reads as it did. -/
def geometryMovesUptoRow : OpenClaim := { program := "ytdflamblbhpngaa", sum := "7a386c9d07d918ad4e8bd1e3a377ac8f87ccb6d3a90cf61e5ee2ff51b0f6ec5f", func := "clearway/clearwaylaw16.GeometryMoves", spec := "geometryMoves", unfollowed := true, recurses := true, apart := false, narrowed := true }
def GeometryMovesUptoSaid : Prop := geometryMovesUptoRow.holds Try.pinned (OpenSpec.upto geometryMovesSpec)

/-- 'clearwaylaw16.GeometryExamples', WHERE WHAT IT READS IS OF BULK AT MOST 1048576: true; the input reads as it did. -/
def geometryExamplesUptoRow : OpenClaim := { program := "ytdflamblbhpngaa", sum := "7a386c9d07d918ad4e8bd1e3a377ac8f87ccb6d3a90cf61e5ee2ff51b0f6ec5f", func := "clearway/clearwaylaw16.GeometryExamples", spec := "geometryExamples", unfollowed := true, recurses := true, apart := false, narrowed := true }
def GeometryExamplesUptoSaid : Prop := geometryExamplesUptoRow.holds Try.pinned (OpenSpec.upto geometryExamplesSpec)

end Rows
end Go.Proofs.Ytdflamblbhpngaa
