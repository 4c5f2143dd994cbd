/-
  No cell of these rows narrows 'for every input' (looked for: loops, veiled, ifaces, maps, wideKeys, modest, calm, conditions, laid).
  DERIVED. THE GIVEN ROWS OF THIS SEAT. 6 by the template 'for every input the law returns true; each argument reads behind the call as it read before'; 0 by the template 'total and deterministic' (their statements: YtephkhaebkajkaaTotals.lean).
  GIVEN WITH THE SEED: the statements are not yours to turn. If you find one false, say at which input.
  Laid BY PROGRAM, IN A SANDBOX (cutbox-rows.mjs): the forced cells as the released guide's own fill.sh prints them over the translation 74ef2b024df32c16… (all of the seat's roots in one cut). By AI agents, Wed Nov 11 2026. No macro, syntax, notation, axiom, sorry.
-/
import Derived.Test.YtephkhaebkajkaaChecked
import GoSem.Claim
import GoSem.ClaimJoined
import GoSem.ClaimMapViews
import Derived.JoinedTies
import Derived.KernelRfl
namespace Go.Proofs.Ytephkhaebkajkaa
/- THE CELL 'sum', in the pinned program and in every row, IS THE sha256 OF THE DUMP (.gsa) THAT YtephkhaebkajkaaProg.lean LOADS. Nothing in Lean hashes anything: it is a label: what it is worth is what the hold of that sum in a sandbox is worth. -/
noncomputable def Try.pinned : Pinned := { name := "ytephkhaebkajkaa", sum := "74ef2b024df32c169a2515f82de43e3c836857ff2459642088bbe4a6d0ac8feb", checked := Try.checked }
namespace Rows
def none {H : Type} : Left H := { results := [], args := [] }

/-- 'clearwaylaw17.RangingMatches': WHATEVER THE INPUT: true; the input reads as it did. -/
def rangingMatchesSpec : ChangeSpec := { name := "rangingMatches", fn := fun _ => fun
  | [d1, d2, d3] => { results := [.lit (.bool true)], args := [d1, d2, d3] }
  | _ => none }
def rangingMatchesRow : OpenClaim := { program := "ytephkhaebkajkaa", sum := "74ef2b024df32c169a2515f82de43e3c836857ff2459642088bbe4a6d0ac8feb", func := "clearway/clearwaylaw17.RangingMatches", spec := "rangingMatches", unfollowed := true, recurses := true, apart := false }
def RangingMatchesSaid : Prop := rangingMatchesRow.holds Try.pinned (OpenSpec.ofChange rangingMatchesSpec)

/-- ITS FALSE NEIGHBOUR: 'it returns false'. Refute it at one input. -/
def rangingMatchesWrong : ChangeSpec := { name := "rangingMatches", fn := fun _ => fun
  | [d1, d2, d3] => { results := [.lit (.bool false)], args := [d1, d2, d3] }
  | _ => none }
def RangingMatchesWrongFalsely : Prop := rangingMatchesRow.holds Try.pinned (OpenSpec.ofChange rangingMatchesWrong)

/-- 'clearwaylaw17.RangingClose': WHATEVER THE INPUT: true; the input reads as it did. -/
def rangingCloseSpec : ChangeSpec := { name := "rangingClose", fn := fun _ => fun
  | [d1, d2, d3] => { results := [.lit (.bool true)], args := [d1, d2, d3] }
  | _ => none }
def rangingCloseRow : OpenClaim := { program := "ytephkhaebkajkaa", sum := "74ef2b024df32c169a2515f82de43e3c836857ff2459642088bbe4a6d0ac8feb", func := "clearway/clearwaylaw17.RangingClose", spec := "rangingClose", unfollowed := true, recurses := true, apart := false }
def RangingCloseSaid : Prop := rangingCloseRow.holds Try.pinned (OpenSpec.ofChange rangingCloseSpec)

/-- ITS FALSE NEIGHBOUR: 'it returns false'. Refute it at one input. -/
def rangingCloseWrong : ChangeSpec := { name := "rangingClose", fn := fun _ => fun
  | [d1, d2, d3] => { results := [.lit (.bool false)], args := [d1, d2, d3] }
  | _ => none }
def RangingCloseWrongFalsely : Prop := rangingCloseRow.holds Try.pinned (OpenSpec.ofChange rangingCloseWrong)

/-- 'clearwaylaw17.RangingRuns': WHATEVER THE INPUT: true; the input reads as it did. -/
def rangingRunsSpec : ChangeSpec := { name := "rangingRuns", fn := fun _ => fun
  | [d] => { results := [.lit (.bool true)], args := [d] }
  | _ => none }
def rangingRunsRow : OpenClaim := { program := "ytephkhaebkajkaa", sum := "74ef2b024df32c169a2515f82de43e3c836857ff2459642088bbe4a6d0ac8feb", func := "clearway/clearwaylaw17.RangingRuns", spec := "rangingRuns", unfollowed := true, recurses := true, apart := false }
def RangingRunsSaid : Prop := rangingRunsRow.holds Try.pinned (OpenSpec.ofChange rangingRunsSpec)

/-- ITS FALSE NEIGHBOUR: 'it returns false'. Refute it at one input. -/
def rangingRunsWrong : ChangeSpec := { name := "rangingRuns", fn := fun _ => fun
  | [d] => { results := [.lit (.bool false)], args := [d] }
  | _ => none }
def RangingRunsWrongFalsely : Prop := rangingRunsRow.holds Try.pinned (OpenSpec.ofChange rangingRunsWrong)

/-- 'clearwaylaw17.RangingLine': WHATEVER THE INPUT: true; the input reads as it did. -/
def rangingLineSpec : ChangeSpec := { name := "rangingLine", fn := fun _ => fun
  | [d1, d2, d3] => { results := [.lit (.bool true)], args := [d1, d2, d3] }
  | _ => none }
def rangingLineRow : OpenClaim := { program := "ytephkhaebkajkaa", sum := "74ef2b024df32c169a2515f82de43e3c836857ff2459642088bbe4a6d0ac8feb", func := "clearway/clearwaylaw17.RangingLine", spec := "rangingLine", unfollowed := true, recurses := true, apart := false }
def RangingLineSaid : Prop := rangingLineRow.holds Try.pinned (OpenSpec.ofChange rangingLineSpec)

/-- ITS FALSE NEIGHBOUR: 'it returns false'. Refute it at one input. -/
def rangingLineWrong : ChangeSpec := { name := "rangingLine", fn := fun _ => fun
  | [d1, d2, d3] => { results := [.lit (.bool false)], args := [d1, d2, d3] }
  | _ => none }
def RangingLineWrongFalsely : Prop := rangingLineRow.holds Try.pinned (OpenSpec.ofChange rangingLineWrong)

/-- 'clearwaylaw17.RangingMirror': WHATEVER THE INPUT: true; the input reads as it did. -/
def rangingMirrorSpec : ChangeSpec := { name := "rangingMirror", fn := fun _ => fun
  | [d] => { results := [.lit (.bool true)], args := [d] }
  | _ => none }
def rangingMirrorRow : OpenClaim := { program := "ytephkhaebkajkaa", sum := "74ef2b024df32c169a2515f82de43e3c836857ff2459642088bbe4a6d0ac8feb", func := "clearway/clearwaylaw17.RangingMirror", spec := "rangingMirror", unfollowed := true, recurses := true, apart := false }
def RangingMirrorSaid : Prop := rangingMirrorRow.holds Try.pinned (OpenSpec.ofChange rangingMirrorSpec)

/-- ITS FALSE NEIGHBOUR: 'it returns false'. Refute it at one input. -/
def rangingMirrorWrong : ChangeSpec := { name := "rangingMirror", fn := fun _ => fun
  | [d] => { results := [.lit (.bool false)], args := [d] }
  | _ => none }
def RangingMirrorWrongFalsely : Prop := rangingMirrorRow.holds Try.pinned (OpenSpec.ofChange rangingMirrorWrong)

/-- 'clearwaylaw17.RangingExamples': WHATEVER THE INPUT: true; the input reads as it did. -/
def rangingExamplesSpec : ChangeSpec := { name := "rangingExamples", fn := fun _ => fun
  | [] => { results := [.lit (.bool true)], args := [] }
  | _ => none }
def rangingExamplesRow : OpenClaim := { program := "ytephkhaebkajkaa", sum := "74ef2b024df32c169a2515f82de43e3c836857ff2459642088bbe4a6d0ac8feb", func := "clearway/clearwaylaw17.RangingExamples", spec := "rangingExamples", unfollowed := true, recurses := true, apart := false }
def RangingExamplesSaid : Prop := rangingExamplesRow.holds Try.pinned (OpenSpec.ofChange rangingExamplesSpec)

/-- ITS FALSE NEIGHBOUR: 'it returns false'. Refute it at one input. -/
def rangingExamplesWrong : ChangeSpec := { name := "rangingExamples", fn := fun _ => fun
  | [] => { results := [.lit (.bool false)], args := [] }
  | _ => none }
def RangingExamplesWrongFalsely : Prop := rangingExamplesRow.holds Try.pinned (OpenSpec.ofChange rangingExamplesWrong)

/- THE SECOND FORM. 'bulk': how many values and letters a reading holds, each counted each time it is reached (what is shared counts as often as it is met; a slice's spare places count too). A statement '..UptoSaid' is the law's where the arguments, and the package variables that the reading takes, are together of bulk at most 1048576: NARROWER than '..Said'. Prove '..Said' where nothing that the law and all that it calls make is longer than what came in: it says more and counts as full. Else prove '..UptoSaid'. A law counts once. -/
mutual
def uptoBulk {H : Type} : DataW H → Nat
  | .lit (.string bytes) => bytes.length + 1
  | .lit _ => 1
  | .nil => 1
  | .ptr d => uptoBulk d + 1
  | .slice elems spare => uptoBulkAll elems + uptoBulkAll spare + 1
  | .agg parts => uptoBulkAll parts + 1
  | .iface _ d => uptoBulk d + 1
  | .map entries => uptoBulkEntries entries + 1
  | .held _ => 1
def uptoBulkAll {H : Type} : List (DataW H) → Nat
  | [] => 0
  | d :: r => uptoBulk d + uptoBulkAll r
def uptoBulkEntries {H : Type} : List (Lit × DataW H) → Nat
  | [] => 0
  | x :: r => uptoBulkEntry x + uptoBulkEntries r
def uptoBulkEntry {H : Type} : Lit × DataW H → Nat
  | (.string bytes, d) => bytes.length + uptoBulk d + 1
  | (_, d) => uptoBulk d + 1
 end
def uptoSmall : (H : Type) → List (DataW H) → Bool := fun _ ds => decide (uptoBulkAll ds ≤ 1048576)
def OpenSpec.upto (s : _root_.Go.ChangeSpec) : _root_.Go.OpenSpec := { _root_.Go.OpenSpec.ofChange s with cond := some uptoSmall }

/-- 'clearwaylaw17.RangingMatches', WHERE WHAT IT READS IS OF BULK AT MOST 1048576: true; the input reads as it did. -/
def rangingMatchesUptoRow : OpenClaim := { program := "ytephkhaebkajkaa", sum := "74ef2b024df32c169a2515f82de43e3c836857ff2459642088bbe4a6d0ac8feb", func := "clearway/clearwaylaw17.RangingMatches", spec := "rangingMatches", unfollowed := true, recurses := true, apart := false, narrowed := true }
def RangingMatchesUptoSaid : Prop := rangingMatchesUptoRow.holds Try.pinned (OpenSpec.upto rangingMatchesSpec)

/-- 'clearwaylaw17.RangingClose', WHERE WHAT IT READS IS OF BULK AT MOST 1048576: true; the input reads as it did. -/
def rangingCloseUptoRow : OpenClaim := { program := "ytephkhaebkajkaa", sum := "74ef2b024df32c169a2515f82de43e3c836857ff2459642088bbe4a6d0ac8feb", func := "clearway/clearwaylaw17.RangingClose", spec := "rangingClose", unfollowed := true, recurses := true, apart := false, narrowed := true }
def RangingCloseUptoSaid : Prop := rangingCloseUptoRow.holds Try.pinned (OpenSpec.upto rangingCloseSpec)

/-- 'clearwaylaw17.RangingRuns', WHERE WHAT IT READS IS OF BULK AT MOST 1048576: true; the input reads as it did. -/
def rangingRunsUptoRow : OpenClaim := { program := "ytephkhaebkajkaa", sum := "74ef2b024df32c169a2515f82de43e3c836857ff2459642088bbe4a6d0ac8feb", func := "clearway/clearwaylaw17.RangingRuns", spec := "rangingRuns", unfollowed := true, recurses := true, apart := false, narrowed := true }
def RangingRunsUptoSaid : Prop := rangingRunsUptoRow.holds Try.pinned (OpenSpec.upto rangingRunsSpec)

/-- 'clearwaylaw17.RangingLine', WHERE WHAT IT READS IS OF BULK AT MOST 1048576: true; the input reads as it did. -/
def rangingLineUptoRow : OpenClaim := { program := "ytephkhaebkajkaa", sum := "74ef2b024df32c169a2515f82de43e3c836857ff2459642088bbe4a6d0ac8feb", func := "clearway/clearwaylaw17.RangingLine", spec := "rangingLine", unfollowed := true, recurses := true, apart := false, narrowed := true }
def RangingLineUptoSaid : Prop := rangingLineUptoRow.holds Try.pinned (OpenSpec.upto rangingLineSpec)

/-- 'clearwaylaw17.RangingMirror', WHERE WHAT IT READS IS OF BULK AT MOST 1048576: true; the input reads as it did. -/
def rangingMirrorUptoRow : OpenClaim := { program := "ytephkhaebkajkaa", sum := "74ef2b024df32c169a2515f82de43e3c836857ff2459642088bbe4a6d0ac8feb", func := "clearway/clearwaylaw17.RangingMirror", spec := "rangingMirror", unfollowed := true, recurses := true, apart := false, narrowed := true }
def RangingMirrorUptoSaid : Prop := rangingMirrorUptoRow.holds Try.pinned (OpenSpec.upto rangingMirrorSpec)

/-- 'clearwaylaw17.RangingExamples', WHERE WHAT IT READS IS OF BULK AT MOST 1048576: true; the input reads as it did. -/
def rangingExamplesUptoRow : OpenClaim := { program := "ytephkhaebkajkaa", sum := "74ef2b024df32c169a2515f82de43e3c836857ff2459642088bbe4a6d0ac8feb", func := "clearway/clearwaylaw17.RangingExamples", spec := "rangingExamples", unfollowed := true, recurses := true, apart := false, narrowed := true }
def RangingExamplesUptoSaid : Prop := rangingExamplesUptoRow.holds Try.pinned (OpenSpec.upto rangingExamplesSpec)

end Rows
end Go.Proofs.Ytephkhaebkajkaa
