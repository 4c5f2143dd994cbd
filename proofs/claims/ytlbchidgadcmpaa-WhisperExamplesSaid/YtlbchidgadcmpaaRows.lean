/-
  No cell of these rows narrows 'for every input' (looked for: loops, veiled, ifaces, maps, wideKeys, modest, calm, conditions, laid).
  DERIVED. THE GIVEN ROWS OF THIS SEAT. 6 by the template 'for every input the law returns true; each argument reads behind the call as it read before'; 0 by the template 'total and deterministic' (their statements: YtlbchidgadcmpaaTotals.lean).
  GIVEN WITH THE SEED: the statements are not yours to turn. If you find one false, say at which input.
  Laid BY PROGRAM, IN A SANDBOX (cutbox-rows.mjs): the forced cells as the released guide's own fill.sh prints them over the translation 91e2d5bad8ea8ace… (all of the seat's roots in one cut). By AI agents, Wed Nov 11 2026. No macro, syntax, notation, axiom, sorry.
-/
import Derived.Test.YtlbchidgadcmpaaChecked
import GoSem.Claim
import GoSem.ClaimJoined
import GoSem.ClaimMapViews
import Derived.JoinedTies
import Derived.KernelRfl
namespace Go.Proofs.Ytlbchidgadcmpaa
/- THE CELL 'sum', in the pinned program and in every row, IS THE sha256 OF THE DUMP (.gsa) THAT YtlbchidgadcmpaaProg.lean LOADS. Nothing in Lean hashes anything: it is a label: what it is worth is what the hold of that sum in a sandbox is worth. -/
noncomputable def Try.pinned : Pinned := { name := "ytlbchidgadcmpaa", sum := "91e2d5bad8ea8acea79228d13da7d56c4503729578449002e5a4ba63fac9f3c8", checked := Try.checked }
namespace Rows
def none {H : Type} : Left H := { results := [], args := [] }

/-- 'clearwaylaw13.WhisperMatches': WHATEVER THE INPUT: true; the input reads as it did. -/
def whisperMatchesSpec : ChangeSpec := { name := "whisperMatches", fn := fun _ => fun
  | [d1, d2] => { results := [.lit (.bool true)], args := [d1, d2] }
  | _ => none }
def whisperMatchesRow : OpenClaim := { program := "ytlbchidgadcmpaa", sum := "91e2d5bad8ea8acea79228d13da7d56c4503729578449002e5a4ba63fac9f3c8", func := "clearway/clearwaylaw13.WhisperMatches", spec := "whisperMatches", unfollowed := true, recurses := true, apart := false }
def WhisperMatchesSaid : Prop := whisperMatchesRow.holds Try.pinned (OpenSpec.ofChange whisperMatchesSpec)

/-- ITS FALSE NEIGHBOUR: 'it returns false'. Refute it at one input. -/
def whisperMatchesWrong : ChangeSpec := { name := "whisperMatches", fn := fun _ => fun
  | [d1, d2] => { results := [.lit (.bool false)], args := [d1, d2] }
  | _ => none }
def WhisperMatchesWrongFalsely : Prop := whisperMatchesRow.holds Try.pinned (OpenSpec.ofChange whisperMatchesWrong)

/-- 'clearwaylaw13.WhisperPlans': WHATEVER THE INPUT: true; the input reads as it did. -/
def whisperPlansSpec : ChangeSpec := { name := "whisperPlans", fn := fun _ => fun
  | [d1, d2] => { results := [.lit (.bool true)], args := [d1, d2] }
  | _ => none }
def whisperPlansRow : OpenClaim := { program := "ytlbchidgadcmpaa", sum := "91e2d5bad8ea8acea79228d13da7d56c4503729578449002e5a4ba63fac9f3c8", func := "clearway/clearwaylaw13.WhisperPlans", spec := "whisperPlans", unfollowed := true, recurses := true, apart := false }
def WhisperPlansSaid : Prop := whisperPlansRow.holds Try.pinned (OpenSpec.ofChange whisperPlansSpec)

/-- ITS FALSE NEIGHBOUR: 'it returns false'. Refute it at one input. -/
def whisperPlansWrong : ChangeSpec := { name := "whisperPlans", fn := fun _ => fun
  | [d1, d2] => { results := [.lit (.bool false)], args := [d1, d2] }
  | _ => none }
def WhisperPlansWrongFalsely : Prop := whisperPlansRow.holds Try.pinned (OpenSpec.ofChange whisperPlansWrong)

/-- 'clearwaylaw13.WhisperOnce': WHATEVER THE INPUT: true; the input reads as it did. -/
def whisperOnceSpec : ChangeSpec := { name := "whisperOnce", fn := fun _ => fun
  | [d1, d2, d3] => { results := [.lit (.bool true)], args := [d1, d2, d3] }
  | _ => none }
def whisperOnceRow : OpenClaim := { program := "ytlbchidgadcmpaa", sum := "91e2d5bad8ea8acea79228d13da7d56c4503729578449002e5a4ba63fac9f3c8", func := "clearway/clearwaylaw13.WhisperOnce", spec := "whisperOnce", unfollowed := true, recurses := true, apart := false }
def WhisperOnceSaid : Prop := whisperOnceRow.holds Try.pinned (OpenSpec.ofChange whisperOnceSpec)

/-- ITS FALSE NEIGHBOUR: 'it returns false'. Refute it at one input. -/
def whisperOnceWrong : ChangeSpec := { name := "whisperOnce", fn := fun _ => fun
  | [d1, d2, d3] => { results := [.lit (.bool false)], args := [d1, d2, d3] }
  | _ => none }
def WhisperOnceWrongFalsely : Prop := whisperOnceRow.holds Try.pinned (OpenSpec.ofChange whisperOnceWrong)

/-- 'clearwaylaw13.WhisperFewest': WHATEVER THE INPUT: true; the input reads as it did. -/
def whisperFewestSpec : ChangeSpec := { name := "whisperFewest", fn := fun _ => fun
  | [d1, d2] => { results := [.lit (.bool true)], args := [d1, d2] }
  | _ => none }
def whisperFewestRow : OpenClaim := { program := "ytlbchidgadcmpaa", sum := "91e2d5bad8ea8acea79228d13da7d56c4503729578449002e5a4ba63fac9f3c8", func := "clearway/clearwaylaw13.WhisperFewest", spec := "whisperFewest", unfollowed := true, recurses := true, apart := false }
def WhisperFewestSaid : Prop := whisperFewestRow.holds Try.pinned (OpenSpec.ofChange whisperFewestSpec)

/-- ITS FALSE NEIGHBOUR: 'it returns false'. Refute it at one input. -/
def whisperFewestWrong : ChangeSpec := { name := "whisperFewest", fn := fun _ => fun
  | [d1, d2] => { results := [.lit (.bool false)], args := [d1, d2] }
  | _ => none }
def WhisperFewestWrongFalsely : Prop := whisperFewestRow.holds Try.pinned (OpenSpec.ofChange whisperFewestWrong)

/-- 'clearwaylaw13.WhisperMore': WHATEVER THE INPUT: true; the input reads as it did. -/
def whisperMoreSpec : ChangeSpec := { name := "whisperMore", fn := fun _ => fun
  | [d1, d2, d3] => { results := [.lit (.bool true)], args := [d1, d2, d3] }
  | _ => none }
def whisperMoreRow : OpenClaim := { program := "ytlbchidgadcmpaa", sum := "91e2d5bad8ea8acea79228d13da7d56c4503729578449002e5a4ba63fac9f3c8", func := "clearway/clearwaylaw13.WhisperMore", spec := "whisperMore", unfollowed := true, recurses := true, apart := false }
def WhisperMoreSaid : Prop := whisperMoreRow.holds Try.pinned (OpenSpec.ofChange whisperMoreSpec)

/-- ITS FALSE NEIGHBOUR: 'it returns false'. Refute it at one input. -/
def whisperMoreWrong : ChangeSpec := { name := "whisperMore", fn := fun _ => fun
  | [d1, d2, d3] => { results := [.lit (.bool false)], args := [d1, d2, d3] }
  | _ => none }
def WhisperMoreWrongFalsely : Prop := whisperMoreRow.holds Try.pinned (OpenSpec.ofChange whisperMoreWrong)

/-- 'clearwaylaw13.WhisperExamples': WHATEVER THE INPUT: true; the input reads as it did. -/
def whisperExamplesSpec : ChangeSpec := { name := "whisperExamples", fn := fun _ => fun
  | [] => { results := [.lit (.bool true)], args := [] }
  | _ => none }
def whisperExamplesRow : OpenClaim := { program := "ytlbchidgadcmpaa", sum := "91e2d5bad8ea8acea79228d13da7d56c4503729578449002e5a4ba63fac9f3c8", func := "clearway/clearwaylaw13.WhisperExamples", spec := "whisperExamples", unfollowed := true, recurses := true, apart := false }
def WhisperExamplesSaid : Prop := whisperExamplesRow.holds Try.pinned (OpenSpec.ofChange whisperExamplesSpec)

/-- ITS FALSE NEIGHBOUR: 'it returns false'. Refute it at one input. -/
def whisperExamplesWrong : ChangeSpec := { name := "whisperExamples", fn := fun _ => fun
  | [] => { results := [.lit (.bool false)], args := [] }
  | _ => none }
def WhisperExamplesWrongFalsely : Prop := whisperExamplesRow.holds Try.pinned (OpenSpec.ofChange whisperExamplesWrong)

/- THE SECOND FORM. 'bulk': how many values and letters a reading holds, each counted each time it is reached (what is shared counts as often as it is met; a slice's spare places count too). A statement '..UptoSaid' is the law's where the arguments, and the package variables that the reading takes, are together of bulk at most 1048576: NARROWER than '..Said'. Prove '..Said' where nothing that the law and all that it calls make is longer than what came in: it says more and counts as full. Else prove '..UptoSaid'. A law counts once. -/
mutual
def uptoBulk {H : Type} : DataW H → Nat
  | .lit (.string bytes) => bytes.length + 1
  | .lit _ => 1
  | .nil => 1
  | .ptr d => uptoBulk d + 1
  | .slice elems spare => uptoBulkAll elems + uptoBulkAll spare + 1
  | .agg parts => uptoBulkAll parts + 1
  | .iface _ d => uptoBulk d + 1
  | .map entries => uptoBulkEntries entries + 1
  | .held _ => 1
def uptoBulkAll {H : Type} : List (DataW H) → Nat
  | [] => 0
  | d :: r => uptoBulk d + uptoBulkAll r
def uptoBulkEntries {H : Type} : List (Lit × DataW H) → Nat
  | [] => 0
  | x :: r => uptoBulkEntry x + uptoBulkEntries r
def uptoBulkEntry {H : Type} : Lit × DataW H → Nat
  | (.string bytes, d) => bytes.length + uptoBulk d + 1
  | (_, d) => uptoBulk d + 1
 end
def uptoSmall : (H : Type) → List (DataW H) → Bool := fun _ ds => decide (uptoBulkAll ds ≤ 1048576)
def OpenSpec.upto (s : _root_.Go.ChangeSpec) : _root_.Go.OpenSpec := { _root_.Go.OpenSpec.ofChange s with cond := some uptoSmall }

/-- 'clearwaylaw13.WhisperMatches', WHERE WHAT IT READS IS OF BULK AT MOST 1048576: true; the input reads as it did. -/
def whisperMatchesUptoRow : OpenClaim := { program := "ytlbchidgadcmpaa", sum := "91e2d5bad8ea8acea79228d13da7d56c4503729578449002e5a4ba63fac9f3c8", func := "clearway/clearwaylaw13.WhisperMatches", spec := "whisperMatches", unfollowed := true, recurses := true, apart := false, narrowed := true }
def WhisperMatchesUptoSaid : Prop := whisperMatchesUptoRow.holds Try.pinned (OpenSpec.upto whisperMatchesSpec)

/-- 'clearwaylaw13.WhisperPlans', WHERE WHAT IT READS IS OF BULK AT MOST 1048576: true; the input reads as it did. -/
def whisperPlansUptoRow : OpenClaim := { program := "ytlbchidgadcmpaa", sum := "91e2d5bad8ea8acea79228d13da7d56c4503729578449002e5a4ba63fac9f3c8", func := "clearway/clearwaylaw13.WhisperPlans", spec := "whisperPlans", unfollowed := true, recurses := true, apart := false, narrowed := true }
def WhisperPlansUptoSaid : Prop := whisperPlansUptoRow.holds Try.pinned (OpenSpec.upto whisperPlansSpec)

/-- 'clearwaylaw13.WhisperOnce', WHERE WHAT IT READS IS OF BULK AT MOST 1048576: true; the input reads as it did. -/
def whisperOnceUptoRow : OpenClaim := { program := "ytlbchidgadcmpaa", sum := "91e2d5bad8ea8acea79228d13da7d56c4503729578449002e5a4ba63fac9f3c8", func := "clearway/clearwaylaw13.WhisperOnce", spec := "whisperOnce", unfollowed := true, recurses := true, apart := false, narrowed := true }
def WhisperOnceUptoSaid : Prop := whisperOnceUptoRow.holds Try.pinned (OpenSpec.upto whisperOnceSpec)

/-- 'clearwaylaw13.WhisperFewest', WHERE WHAT IT READS IS OF BULK AT MOST 1048576: true; the input reads as it did. -/
def whisperFewestUptoRow : OpenClaim := { program := "ytlbchidgadcmpaa", sum := "91e2d5bad8ea8acea79228d13da7d56c4503729578449002e5a4ba63fac9f3c8", func := "clearway/clearwaylaw13.WhisperFewest", spec := "whisperFewest", unfollowed := true, recurses := true, apart := false, narrowed := true }
def WhisperFewestUptoSaid : Prop := whisperFewestUptoRow.holds Try.pinned (OpenSpec.upto whisperFewestSpec)

/-- 'clearwaylaw13.WhisperMore', WHERE WHAT IT READS IS OF BULK AT MOST 1048576: true; the input reads as it did. -/
def whisperMoreUptoRow : OpenClaim := { program := "ytlbchidgadcmpaa", sum := "91e2d5bad8ea8acea79228d13da7d56c4503729578449002e5a4ba63fac9f3c8", func := "clearway/clearwaylaw13.WhisperMore", spec := "whisperMore", unfollowed := true, recurses := true, apart := false, narrowed := true }
def WhisperMoreUptoSaid : Prop := whisperMoreUptoRow.holds Try.pinned (OpenSpec.upto whisperMoreSpec)

/-- 'clearwaylaw13.WhisperExamples', WHERE WHAT IT READS IS OF BULK AT MOST 1048576: true; the input reads as it did. -/
def whisperExamplesUptoRow : OpenClaim := { program := "ytlbchidgadcmpaa", sum := "91e2d5bad8ea8acea79228d13da7d56c4503729578449002e5a4ba63fac9f3c8", func := "clearway/clearwaylaw13.WhisperExamples", spec := "whisperExamples", unfollowed := true, recurses := true, apart := false, narrowed := true }
def WhisperExamplesUptoSaid : Prop := whisperExamplesUptoRow.holds Try.pinned (OpenSpec.upto whisperExamplesSpec)

end Rows
end Go.Proofs.Ytlbchidgadcmpaa
