/-
  No cell of these rows narrows 'for every input' (looked for: loops, veiled, ifaces, maps, wideKeys, modest, calm, conditions, laid).
  DERIVED. THE GIVEN ROWS OF THIS SEAT. 6 by the template 'for every input the law returns true; each argument reads behind the call as it read before'; 0 by the template 'total and deterministic' (their statements: YtfpogcdffccldaaTotals.lean).
  GIVEN WITH THE SEED: the statements are not yours to turn. If you find one false, say at which input.
  Laid BY PROGRAM, IN A SANDBOX (cutbox-rows.mjs): the forced cells as the released guide's own fill.sh prints them over the translation d8c0a18b2ee34ebe… (all of the seat's roots in one cut). By AI agents, Wed Nov 11 2026. No macro, syntax, notation, axiom, sorry.
-/
import Derived.Test.YtfpogcdffccldaaChecked
import GoSem.Claim
import GoSem.ClaimJoined
import GoSem.ClaimMapViews
import Derived.JoinedTies
import Derived.KernelRfl
namespace Go.Proofs.Ytfpogcdffccldaa
/- THE CELL 'sum', in the pinned program and in every row, IS THE sha256 OF THE DUMP (.gsa) THAT YtfpogcdffccldaaProg.lean LOADS. Nothing in Lean hashes anything: it is a label: what it is worth is what the hold of that sum in a sandbox is worth. -/
noncomputable def Try.pinned : Pinned := { name := "ytfpogcdffccldaa", sum := "d8c0a18b2ee34ebe975f26917653bdf5351eacaa1c03d89cde25165b00ebf4d5", checked := Try.checked }
namespace Rows
def none {H : Type} : Left H := { results := [], args := [] }

/-- 'clearwaylaw08.ChanceShuffles': WHATEVER THE INPUT: true; the input reads as it did. -/
def chanceShufflesSpec : ChangeSpec := { name := "chanceShuffles", fn := fun _ => fun
  | [d1, d2] => { results := [.lit (.bool true)], args := [d1, d2] }
  | _ => none }
def chanceShufflesRow : OpenClaim := { program := "ytfpogcdffccldaa", sum := "d8c0a18b2ee34ebe975f26917653bdf5351eacaa1c03d89cde25165b00ebf4d5", func := "clearway/clearwaylaw08.ChanceShuffles", spec := "chanceShuffles", unfollowed := true, recurses := true, apart := false }
def ChanceShufflesSaid : Prop := chanceShufflesRow.holds Try.pinned (OpenSpec.ofChange chanceShufflesSpec)

/-- ITS FALSE NEIGHBOUR: 'it returns false'. Refute it at one input. -/
def chanceShufflesWrong : ChangeSpec := { name := "chanceShuffles", fn := fun _ => fun
  | [d1, d2] => { results := [.lit (.bool false)], args := [d1, d2] }
  | _ => none }
def ChanceShufflesWrongFalsely : Prop := chanceShufflesRow.holds Try.pinned (OpenSpec.ofChange chanceShufflesWrong)

/-- 'clearwaylaw08.ChanceSteps': WHATEVER THE INPUT: true; the input reads as it did. -/
def chanceStepsSpec : ChangeSpec := { name := "chanceSteps", fn := fun _ => fun
  | [d1, d2] => { results := [.lit (.bool true)], args := [d1, d2] }
  | _ => none }
def chanceStepsRow : OpenClaim := { program := "ytfpogcdffccldaa", sum := "d8c0a18b2ee34ebe975f26917653bdf5351eacaa1c03d89cde25165b00ebf4d5", func := "clearway/clearwaylaw08.ChanceSteps", spec := "chanceSteps", unfollowed := true, recurses := true, apart := false }
def ChanceStepsSaid : Prop := chanceStepsRow.holds Try.pinned (OpenSpec.ofChange chanceStepsSpec)

/-- ITS FALSE NEIGHBOUR: 'it returns false'. Refute it at one input. -/
def chanceStepsWrong : ChangeSpec := { name := "chanceSteps", fn := fun _ => fun
  | [d1, d2] => { results := [.lit (.bool false)], args := [d1, d2] }
  | _ => none }
def ChanceStepsWrongFalsely : Prop := chanceStepsRow.holds Try.pinned (OpenSpec.ofChange chanceStepsWrong)

/-- 'clearwaylaw08.ChanceSkips': WHATEVER THE INPUT: true; the input reads as it did. -/
def chanceSkipsSpec : ChangeSpec := { name := "chanceSkips", fn := fun _ => fun
  | [d1, d2, d3, d4] => { results := [.lit (.bool true)], args := [d1, d2, d3, d4] }
  | _ => none }
def chanceSkipsRow : OpenClaim := { program := "ytfpogcdffccldaa", sum := "d8c0a18b2ee34ebe975f26917653bdf5351eacaa1c03d89cde25165b00ebf4d5", func := "clearway/clearwaylaw08.ChanceSkips", spec := "chanceSkips", unfollowed := true, recurses := true, apart := false }
def ChanceSkipsSaid : Prop := chanceSkipsRow.holds Try.pinned (OpenSpec.ofChange chanceSkipsSpec)

/-- ITS FALSE NEIGHBOUR: 'it returns false'. Refute it at one input. -/
def chanceSkipsWrong : ChangeSpec := { name := "chanceSkips", fn := fun _ => fun
  | [d1, d2, d3, d4] => { results := [.lit (.bool false)], args := [d1, d2, d3, d4] }
  | _ => none }
def ChanceSkipsWrongFalsely : Prop := chanceSkipsRow.holds Try.pinned (OpenSpec.ofChange chanceSkipsWrong)

/-- 'clearwaylaw08.ChanceFates': WHATEVER THE INPUT: true; the input reads as it did. -/
def chanceFatesSpec : ChangeSpec := { name := "chanceFates", fn := fun _ => fun
  | [d1, d2, d3, d4, d5] => { results := [.lit (.bool true)], args := [d1, d2, d3, d4, d5] }
  | _ => none }
def chanceFatesRow : OpenClaim := { program := "ytfpogcdffccldaa", sum := "d8c0a18b2ee34ebe975f26917653bdf5351eacaa1c03d89cde25165b00ebf4d5", func := "clearway/clearwaylaw08.ChanceFates", spec := "chanceFates", unfollowed := true, recurses := true, apart := false }
def ChanceFatesSaid : Prop := chanceFatesRow.holds Try.pinned (OpenSpec.ofChange chanceFatesSpec)

/-- ITS FALSE NEIGHBOUR: 'it returns false'. Refute it at one input. -/
def chanceFatesWrong : ChangeSpec := { name := "chanceFates", fn := fun _ => fun
  | [d1, d2, d3, d4, d5] => { results := [.lit (.bool false)], args := [d1, d2, d3, d4, d5] }
  | _ => none }
def ChanceFatesWrongFalsely : Prop := chanceFatesRow.holds Try.pinned (OpenSpec.ofChange chanceFatesWrong)

/-- 'clearwaylaw08.ChanceDraws': WHATEVER THE INPUT: true; the input reads as it did. -/
def chanceDrawsSpec : ChangeSpec := { name := "chanceDraws", fn := fun _ => fun
  | [d1, d2, d3, d4, d5, d6, d7, d8] => { results := [.lit (.bool true)], args := [d1, d2, d3, d4, d5, d6, d7, d8] }
  | _ => none }
def chanceDrawsRow : OpenClaim := { program := "ytfpogcdffccldaa", sum := "d8c0a18b2ee34ebe975f26917653bdf5351eacaa1c03d89cde25165b00ebf4d5", func := "clearway/clearwaylaw08.ChanceDraws", spec := "chanceDraws", unfollowed := true, recurses := true, apart := false }
def ChanceDrawsSaid : Prop := chanceDrawsRow.holds Try.pinned (OpenSpec.ofChange chanceDrawsSpec)

/-- ITS FALSE NEIGHBOUR: 'it returns false'. Refute it at one input. -/
def chanceDrawsWrong : ChangeSpec := { name := "chanceDraws", fn := fun _ => fun
  | [d1, d2, d3, d4, d5, d6, d7, d8] => { results := [.lit (.bool false)], args := [d1, d2, d3, d4, d5, d6, d7, d8] }
  | _ => none }
def ChanceDrawsWrongFalsely : Prop := chanceDrawsRow.holds Try.pinned (OpenSpec.ofChange chanceDrawsWrong)

/-- 'clearwaylaw08.ChanceExamples': WHATEVER THE INPUT: true; the input reads as it did. -/
def chanceExamplesSpec : ChangeSpec := { name := "chanceExamples", fn := fun _ => fun
  | [] => { results := [.lit (.bool true)], args := [] }
  | _ => none }
def chanceExamplesRow : OpenClaim := { program := "ytfpogcdffccldaa", sum := "d8c0a18b2ee34ebe975f26917653bdf5351eacaa1c03d89cde25165b00ebf4d5", func := "clearway/clearwaylaw08.ChanceExamples", spec := "chanceExamples", unfollowed := true, recurses := true, apart := false }
def ChanceExamplesSaid : Prop := chanceExamplesRow.holds Try.pinned (OpenSpec.ofChange chanceExamplesSpec)

/-- ITS FALSE NEIGHBOUR: 'it returns false'. Refute it at one input. -/
def chanceExamplesWrong : ChangeSpec := { name := "chanceExamples", fn := fun _ => fun
  | [] => { results := [.lit (.bool false)], args := [] }
  | _ => none }
def ChanceExamplesWrongFalsely : Prop := chanceExamplesRow.holds Try.pinned (OpenSpec.ofChange chanceExamplesWrong)

/- THE SECOND FORM. 'bulk': how many values and letters a reading holds, each counted each time it is reached (what is shared counts as often as it is met; a slice's spare places count too). A statement '..UptoSaid' is the law's where the arguments, and the package variables that the reading takes, are together of bulk at most 1048576: NARROWER than '..Said'. Prove '..Said' where nothing that the law and all that it calls make is longer than what came in: it says more and counts as full. Else prove '..UptoSaid'. A law counts once. -/
mutual
def uptoBulk {H : Type} : DataW H → Nat
  | .lit (.string bytes) => bytes.length + 1
  | .lit _ => 1
  | .nil => 1
  | .ptr d => uptoBulk d + 1
  | .slice elems spare => uptoBulkAll elems + uptoBulkAll spare + 1
  | .agg parts => uptoBulkAll parts + 1
  | .iface _ d => uptoBulk d + 1
  | .map entries => uptoBulkEntries entries + 1
  | .held _ => 1
def uptoBulkAll {H : Type} : List (DataW H) → Nat
  | [] => 0
  | d :: r => uptoBulk d + uptoBulkAll r
def uptoBulkEntries {H : Type} : List (Lit × DataW H) → Nat
  | [] => 0
  | x :: r => uptoBulkEntry x + uptoBulkEntries r
def uptoBulkEntry {H : Type} : Lit × DataW H → Nat
  | (.string bytes, d) => bytes.length + uptoBulk d + 1
  | (_, d) => uptoBulk d + 1
 end
def uptoSmall : (H : Type) → List (DataW H) → Bool := fun _ ds => decide (uptoBulkAll ds ≤ 1048576)
def OpenSpec.upto (s : _root_.Go.ChangeSpec) : _root_.Go.OpenSpec := { _root_.Go.OpenSpec.ofChange s with cond := some uptoSmall }

/-- 'clearwaylaw08.ChanceShuffles', WHERE WHAT IT READS IS OF BULK AT MOST 1048576: true; the input reads as it did. -/
def chanceShufflesUptoRow : OpenClaim := { program := "ytfpogcdffccldaa", sum := "d8c0a18b2ee34ebe975f26917653bdf5351eacaa1c03d89cde25165b00ebf4d5", func := "clearway/clearwaylaw08.ChanceShuffles", spec := "chanceShuffles", unfollowed := true, recurses := true, apart := false, narrowed := true }
def ChanceShufflesUptoSaid : Prop := chanceShufflesUptoRow.holds Try.pinned (OpenSpec.upto chanceShufflesSpec)

/-- 'clearwaylaw08.ChanceSteps', WHERE WHAT IT READS IS OF BULK AT MOST 1048576: true; the input reads as it did. -/
def chanceStepsUptoRow : OpenClaim := { program := "ytfpogcdffccldaa", sum := "d8c0a18b2ee34ebe975f26917653bdf5351eacaa1c03d89cde25165b00ebf4d5", func := "clearway/clearwaylaw08.ChanceSteps", spec := "chanceSteps", unfollowed := true, recurses := true, apart := false, narrowed := true }
def ChanceStepsUptoSaid : Prop := chanceStepsUptoRow.holds Try.pinned (OpenSpec.upto chanceStepsSpec)

/-- 'clearwaylaw08.ChanceSkips', WHERE WHAT IT READS IS OF BULK AT MOST 1048576: true; the input reads as it did. -/
def chanceSkipsUptoRow : OpenClaim := { program := "ytfpogcdffccldaa", sum := "d8c0a18b2ee34ebe975f26917653bdf5351eacaa1c03d89cde25165b00ebf4d5", func := "clearway/clearwaylaw08.ChanceSkips", spec := "chanceSkips", unfollowed := true, recurses := true, apart := false, narrowed := true }
def ChanceSkipsUptoSaid : Prop := chanceSkipsUptoRow.holds Try.pinned (OpenSpec.upto chanceSkipsSpec)

/-- 'clearwaylaw08.ChanceFates', WHERE WHAT IT READS IS OF BULK AT MOST 1048576: true; the input reads as it did. -/
def chanceFatesUptoRow : OpenClaim := { program := "ytfpogcdffccldaa", sum := "d8c0a18b2ee34ebe975f26917653bdf5351eacaa1c03d89cde25165b00ebf4d5", func := "clearway/clearwaylaw08.ChanceFates", spec := "chanceFates", unfollowed := true, recurses := true, apart := false, narrowed := true }
def ChanceFatesUptoSaid : Prop := chanceFatesUptoRow.holds Try.pinned (OpenSpec.upto chanceFatesSpec)

/-- 'clearwaylaw08.ChanceDraws', WHERE WHAT IT READS IS OF BULK AT MOST 1048576: true; the input reads as it did. -/
def chanceDrawsUptoRow : OpenClaim := { program := "ytfpogcdffccldaa", sum := "d8c0a18b2ee34ebe975f26917653bdf5351eacaa1c03d89cde25165b00ebf4d5", func := "clearway/clearwaylaw08.ChanceDraws", spec := "chanceDraws", unfollowed := true, recurses := true, apart := false, narrowed := true }
def ChanceDrawsUptoSaid : Prop := chanceDrawsUptoRow.holds Try.pinned (OpenSpec.upto chanceDrawsSpec)

/-- 'clearwaylaw08.ChanceExamples', WHERE WHAT IT READS IS OF BULK AT MOST 1048576: true; the input reads as it did. -/
def chanceExamplesUptoRow : OpenClaim := { program := "ytfpogcdffccldaa", sum := "d8c0a18b2ee34ebe975f26917653bdf5351eacaa1c03d89cde25165b00ebf4d5", func := "clearway/clearwaylaw08.ChanceExamples", spec := "chanceExamples", unfollowed := true, recurses := true, apart := false, narrowed := true }
def ChanceExamplesUptoSaid : Prop := chanceExamplesUptoRow.holds Try.pinned (OpenSpec.upto chanceExamplesSpec)

end Rows
end Go.Proofs.Ytfpogcdffccldaa
