/-
  No cell of these rows narrows 'for every input' (looked for: loops, veiled, ifaces, maps, wideKeys, modest, calm, conditions, laid).
  DERIVED. THE GIVEN ROWS OF THIS SEAT. 6 by the template 'for every input the law returns true; each argument reads behind the call as it read before'; 0 by the template 'total and deterministic' (their statements: YtbonniladhablaaTotals.lean).
  GIVEN WITH THE SEED: the statements are not yours to turn. If you find one false, say at which input.
  Laid BY PROGRAM, IN A SANDBOX (cutbox-rows.mjs): the forced cells as the released guide's own fill.sh prints them over the translation 49baede01e61bc7d… (all of the seat's roots in one cut). By AI agents, Wed Nov 11 2026. No macro, syntax, notation, axiom, sorry.
-/
import Derived.Test.YtbonniladhablaaChecked
import GoSem.Claim
import GoSem.ClaimJoined
import GoSem.ClaimMapViews
import Derived.JoinedTies
import Derived.KernelRfl
namespace Go.Proofs.Ytbonniladhablaa
/- THE CELL 'sum', in the pinned program and in every row, IS THE sha256 OF THE DUMP (.gsa) THAT YtbonniladhablaaProg.lean LOADS. Nothing in Lean hashes anything: it is a label: what it is worth is what the hold of that sum in a sandbox is worth. -/
noncomputable def Try.pinned : Pinned := { name := "ytbonniladhablaa", sum := "49baede01e61bc7d5cb235b7e92fadb2b17b28a7d0112206f7dbd26ca7841c27", checked := Try.checked }
namespace Rows
def none {H : Type} : Left H := { results := [], args := [] }

/-- 'clearwaylaw35.TauMatches': WHATEVER THE INPUT: true; the input reads as it did. -/
def tauMatchesSpec : ChangeSpec := { name := "tauMatches", fn := fun _ => fun
  | [d1, d2, d3] => { results := [.lit (.bool true)], args := [d1, d2, d3] }
  | _ => none }
def tauMatchesRow : OpenClaim := { program := "ytbonniladhablaa", sum := "49baede01e61bc7d5cb235b7e92fadb2b17b28a7d0112206f7dbd26ca7841c27", func := "clearway/clearwaylaw35.TauMatches", spec := "tauMatches", apart := false }
def TauMatchesSaid : Prop := tauMatchesRow.holds Try.pinned (OpenSpec.ofChange tauMatchesSpec)

/-- ITS FALSE NEIGHBOUR: 'it returns false'. Refute it at one input. -/
def tauMatchesWrong : ChangeSpec := { name := "tauMatches", fn := fun _ => fun
  | [d1, d2, d3] => { results := [.lit (.bool false)], args := [d1, d2, d3] }
  | _ => none }
def TauMatchesWrongFalsely : Prop := tauMatchesRow.holds Try.pinned (OpenSpec.ofChange tauMatchesWrong)

/-- 'clearwaylaw35.TauMonotone': WHATEVER THE INPUT: true; the input reads as it did. -/
def tauMonotoneSpec : ChangeSpec := { name := "tauMonotone", fn := fun _ => fun
  | [d1, d2, d3] => { results := [.lit (.bool true)], args := [d1, d2, d3] }
  | _ => none }
def tauMonotoneRow : OpenClaim := { program := "ytbonniladhablaa", sum := "49baede01e61bc7d5cb235b7e92fadb2b17b28a7d0112206f7dbd26ca7841c27", func := "clearway/clearwaylaw35.TauMonotone", spec := "tauMonotone", apart := false }
def TauMonotoneSaid : Prop := tauMonotoneRow.holds Try.pinned (OpenSpec.ofChange tauMonotoneSpec)

/-- ITS FALSE NEIGHBOUR: 'it returns false'. Refute it at one input. -/
def tauMonotoneWrong : ChangeSpec := { name := "tauMonotone", fn := fun _ => fun
  | [d1, d2, d3] => { results := [.lit (.bool false)], args := [d1, d2, d3] }
  | _ => none }
def TauMonotoneWrongFalsely : Prop := tauMonotoneRow.holds Try.pinned (OpenSpec.ofChange tauMonotoneWrong)

/-- 'clearwaylaw35.TauHolds': WHATEVER THE INPUT: true; the input reads as it did. -/
def tauHoldsSpec : ChangeSpec := { name := "tauHolds", fn := fun _ => fun
  | [d1, d2] => { results := [.lit (.bool true)], args := [d1, d2] }
  | _ => none }
def tauHoldsRow : OpenClaim := { program := "ytbonniladhablaa", sum := "49baede01e61bc7d5cb235b7e92fadb2b17b28a7d0112206f7dbd26ca7841c27", func := "clearway/clearwaylaw35.TauHolds", spec := "tauHolds", apart := false }
def TauHoldsSaid : Prop := tauHoldsRow.holds Try.pinned (OpenSpec.ofChange tauHoldsSpec)

/-- ITS FALSE NEIGHBOUR: 'it returns false'. Refute it at one input. -/
def tauHoldsWrong : ChangeSpec := { name := "tauHolds", fn := fun _ => fun
  | [d1, d2] => { results := [.lit (.bool false)], args := [d1, d2] }
  | _ => none }
def TauHoldsWrongFalsely : Prop := tauHoldsRow.holds Try.pinned (OpenSpec.ofChange tauHoldsWrong)

/-- 'clearwaylaw35.TauBetween': WHATEVER THE INPUT: true; the input reads as it did. -/
def tauBetweenSpec : ChangeSpec := { name := "tauBetween", fn := fun _ => fun
  | [d1, d2] => { results := [.lit (.bool true)], args := [d1, d2] }
  | _ => none }
def tauBetweenRow : OpenClaim := { program := "ytbonniladhablaa", sum := "49baede01e61bc7d5cb235b7e92fadb2b17b28a7d0112206f7dbd26ca7841c27", func := "clearway/clearwaylaw35.TauBetween", spec := "tauBetween", apart := false }
def TauBetweenSaid : Prop := tauBetweenRow.holds Try.pinned (OpenSpec.ofChange tauBetweenSpec)

/-- ITS FALSE NEIGHBOUR: 'it returns false'. Refute it at one input. -/
def tauBetweenWrong : ChangeSpec := { name := "tauBetween", fn := fun _ => fun
  | [d1, d2] => { results := [.lit (.bool false)], args := [d1, d2] }
  | _ => none }
def TauBetweenWrongFalsely : Prop := tauBetweenRow.holds Try.pinned (OpenSpec.ofChange tauBetweenWrong)

/-- 'clearwaylaw35.TauClasses': WHATEVER THE INPUT: true; the input reads as it did. -/
def tauClassesSpec : ChangeSpec := { name := "tauClasses", fn := fun _ => fun
  | [d1, d2, d3, d4, d5, d6] => { results := [.lit (.bool true)], args := [d1, d2, d3, d4, d5, d6] }
  | _ => none }
def tauClassesRow : OpenClaim := { program := "ytbonniladhablaa", sum := "49baede01e61bc7d5cb235b7e92fadb2b17b28a7d0112206f7dbd26ca7841c27", func := "clearway/clearwaylaw35.TauClasses", spec := "tauClasses", unfollowed := true, recurses := true, apart := false }
def TauClassesSaid : Prop := tauClassesRow.holds Try.pinned (OpenSpec.ofChange tauClassesSpec)

/-- ITS FALSE NEIGHBOUR: 'it returns false'. Refute it at one input. -/
def tauClassesWrong : ChangeSpec := { name := "tauClasses", fn := fun _ => fun
  | [d1, d2, d3, d4, d5, d6] => { results := [.lit (.bool false)], args := [d1, d2, d3, d4, d5, d6] }
  | _ => none }
def TauClassesWrongFalsely : Prop := tauClassesRow.holds Try.pinned (OpenSpec.ofChange tauClassesWrong)

/-- 'clearwaylaw35.TauExamples': WHATEVER THE INPUT: true; the input reads as it did. -/
def tauExamplesSpec : ChangeSpec := { name := "tauExamples", fn := fun _ => fun
  | [] => { results := [.lit (.bool true)], args := [] }
  | _ => none }
def tauExamplesRow : OpenClaim := { program := "ytbonniladhablaa", sum := "49baede01e61bc7d5cb235b7e92fadb2b17b28a7d0112206f7dbd26ca7841c27", func := "clearway/clearwaylaw35.TauExamples", spec := "tauExamples", unfollowed := true, recurses := true, apart := false }
def TauExamplesSaid : Prop := tauExamplesRow.holds Try.pinned (OpenSpec.ofChange tauExamplesSpec)

/-- ITS FALSE NEIGHBOUR: 'it returns false'. Refute it at one input. -/
def tauExamplesWrong : ChangeSpec := { name := "tauExamples", fn := fun _ => fun
  | [] => { results := [.lit (.bool false)], args := [] }
  | _ => none }
def TauExamplesWrongFalsely : Prop := tauExamplesRow.holds Try.pinned (OpenSpec.ofChange tauExamplesWrong)

/- THE SECOND FORM. 'bulk': how many values and letters a reading holds, each counted each time it is reached (what is shared counts as often as it is met; a slice's spare places count too). A statement '..UptoSaid' is the law's where the arguments, and the package variables that the reading takes, are together of bulk at most 1048576: NARROWER than '..Said'. Prove '..Said' where nothing that the law and all that it calls make is longer than what came in: it says more and counts as full. Else prove '..UptoSaid'. A law counts once. -/
mutual
def uptoBulk {H : Type} : DataW H → Nat
  | .lit (.string bytes) => bytes.length + 1
  | .lit _ => 1
  | .nil => 1
  | .ptr d => uptoBulk d + 1
  | .slice elems spare => uptoBulkAll elems + uptoBulkAll spare + 1
  | .agg parts => uptoBulkAll parts + 1
  | .iface _ d => uptoBulk d + 1
  | .map entries => uptoBulkEntries entries + 1
  | .held _ => 1
def uptoBulkAll {H : Type} : List (DataW H) → Nat
  | [] => 0
  | d :: r => uptoBulk d + uptoBulkAll r
def uptoBulkEntries {H : Type} : List (Lit × DataW H) → Nat
  | [] => 0
  | x :: r => uptoBulkEntry x + uptoBulkEntries r
def uptoBulkEntry {H : Type} : Lit × DataW H → Nat
  | (.string bytes, d) => bytes.length + uptoBulk d + 1
  | (_, d) => uptoBulk d + 1
 end
def uptoSmall : (H : Type) → List (DataW H) → Bool := fun _ ds => decide (uptoBulkAll ds ≤ 1048576)
def OpenSpec.upto (s : _root_.Go.ChangeSpec) : _root_.Go.OpenSpec := { _root_.Go.OpenSpec.ofChange s with cond := some uptoSmall }

/-- 'clearwaylaw35.TauMatches', WHERE WHAT IT READS IS OF BULK AT MOST 1048576: true; the input reads as it did. -/
def tauMatchesUptoRow : OpenClaim := { program := "ytbonniladhablaa", sum := "49baede01e61bc7d5cb235b7e92fadb2b17b28a7d0112206f7dbd26ca7841c27", func := "clearway/clearwaylaw35.TauMatches", spec := "tauMatches", apart := false, narrowed := true }
def TauMatchesUptoSaid : Prop := tauMatchesUptoRow.holds Try.pinned (OpenSpec.upto tauMatchesSpec)

/-- 'clearwaylaw35.TauMonotone', WHERE WHAT IT READS IS OF BULK AT MOST 1048576: true; the input reads as it did. -/
def tauMonotoneUptoRow : OpenClaim := { program := "ytbonniladhablaa", sum := "49baede01e61bc7d5cb235b7e92fadb2b17b28a7d0112206f7dbd26ca7841c27", func := "clearway/clearwaylaw35.TauMonotone", spec := "tauMonotone", apart := false, narrowed := true }
def TauMonotoneUptoSaid : Prop := tauMonotoneUptoRow.holds Try.pinned (OpenSpec.upto tauMonotoneSpec)

/-- 'clearwaylaw35.TauHolds', WHERE WHAT IT READS IS OF BULK AT MOST 1048576: true; the input reads as it did. -/
def tauHoldsUptoRow : OpenClaim := { program := "ytbonniladhablaa", sum := "49baede01e61bc7d5cb235b7e92fadb2b17b28a7d0112206f7dbd26ca7841c27", func := "clearway/clearwaylaw35.TauHolds", spec := "tauHolds", apart := false, narrowed := true }
def TauHoldsUptoSaid : Prop := tauHoldsUptoRow.holds Try.pinned (OpenSpec.upto tauHoldsSpec)

/-- 'clearwaylaw35.TauBetween', WHERE WHAT IT READS IS OF BULK AT MOST 1048576: true; the input reads as it did. -/
def tauBetweenUptoRow : OpenClaim := { program := "ytbonniladhablaa", sum := "49baede01e61bc7d5cb235b7e92fadb2b17b28a7d0112206f7dbd26ca7841c27", func := "clearway/clearwaylaw35.TauBetween", spec := "tauBetween", apart := false, narrowed := true }
def TauBetweenUptoSaid : Prop := tauBetweenUptoRow.holds Try.pinned (OpenSpec.upto tauBetweenSpec)

/-- 'clearwaylaw35.TauClasses', WHERE WHAT IT READS IS OF BULK AT MOST 1048576: true; the input reads as it did. -/
def tauClassesUptoRow : OpenClaim := { program := "ytbonniladhablaa", sum := "49baede01e61bc7d5cb235b7e92fadb2b17b28a7d0112206f7dbd26ca7841c27", func := "clearway/clearwaylaw35.TauClasses", spec := "tauClasses", unfollowed := true, recurses := true, apart := false, narrowed := true }
def TauClassesUptoSaid : Prop := tauClassesUptoRow.holds Try.pinned (OpenSpec.upto tauClassesSpec)

/-- 'clearwaylaw35.TauExamples', WHERE WHAT IT READS IS OF BULK AT MOST 1048576: true; the input reads as it did. -/
def tauExamplesUptoRow : OpenClaim := { program := "ytbonniladhablaa", sum := "49baede01e61bc7d5cb235b7e92fadb2b17b28a7d0112206f7dbd26ca7841c27", func := "clearway/clearwaylaw35.TauExamples", spec := "tauExamples", unfollowed := true, recurses := true, apart := false, narrowed := true }
def TauExamplesUptoSaid : Prop := tauExamplesUptoRow.holds Try.pinned (OpenSpec.upto tauExamplesSpec)

end Rows
end Go.Proofs.Ytbonniladhablaa
