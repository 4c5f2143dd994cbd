/-
  No cell of these rows narrows 'for every input' (looked for: loops, veiled, ifaces, maps, wideKeys, modest, calm, conditions, laid).
  DERIVED. THE GIVEN ROWS OF THIS SEAT. 7 by the template 'for every input the law returns true; each argument reads behind the call as it read before'; 0 by the template 'total and deterministic' (their statements: YtmkpblfacnnnoaaTotals.lean).
  GIVEN WITH THE SEED: the statements are not yours to turn. If you find one false, say at which input.
  Laid BY PROGRAM, IN A SANDBOX (cutbox-rows.mjs): the forced cells as the released guide's own fill.sh prints them over the translation 0a8ca62a81cb787d… (all of the seat's roots in one cut). By AI agents, Wed Nov 11 2026. No macro, syntax, notation, axiom, sorry.
-/
import Derived.Test.YtmkpblfacnnnoaaChecked
import GoSem.Claim
import GoSem.ClaimJoined
import GoSem.ClaimMapViews
import Derived.JoinedTies
import Derived.KernelRfl
namespace Go.Proofs.Ytmkpblfacnnnoaa
/- THE CELL 'sum', in the pinned program and in every row, IS THE sha256 OF THE DUMP (.gsa) THAT YtmkpblfacnnnoaaProg.lean LOADS. Nothing in Lean hashes anything: it is a label: what it is worth is what the hold of that sum in a sandbox is worth. -/
noncomputable def Try.pinned : Pinned := { name := "ytmkpblfacnnnoaa", sum := "0a8ca62a81cb787df146e79ffb4e7c043085d8e921eb484841fd8406b4d212ff", checked := Try.checked }
namespace Rows
def none {H : Type} : Left H := { results := [], args := [] }

/-- 'clearwaylaw12.FruitMatches': WHATEVER THE INPUT: true; the input reads as it did. -/
def fruitMatchesSpec : ChangeSpec := { name := "fruitMatches", fn := fun _ => fun
  | [d1, d2, d3] => { results := [.lit (.bool true)], args := [d1, d2, d3] }
  | _ => none }
def fruitMatchesRow : OpenClaim := { program := "ytmkpblfacnnnoaa", sum := "0a8ca62a81cb787df146e79ffb4e7c043085d8e921eb484841fd8406b4d212ff", func := "clearway/clearwaylaw12.FruitMatches", spec := "fruitMatches", unfollowed := true, recurses := true, apart := false }
def FruitMatchesSaid : Prop := fruitMatchesRow.holds Try.pinned (OpenSpec.ofChange fruitMatchesSpec)

/-- ITS FALSE NEIGHBOUR: 'it returns false'. Refute it at one input. -/
def fruitMatchesWrong : ChangeSpec := { name := "fruitMatches", fn := fun _ => fun
  | [d1, d2, d3] => { results := [.lit (.bool false)], args := [d1, d2, d3] }
  | _ => none }
def FruitMatchesWrongFalsely : Prop := fruitMatchesRow.holds Try.pinned (OpenSpec.ofChange fruitMatchesWrong)

/-- 'clearwaylaw12.FruitLives': WHATEVER THE INPUT: true; the input reads as it did. -/
def fruitLivesSpec : ChangeSpec := { name := "fruitLives", fn := fun _ => fun
  | [d1, d2, d3] => { results := [.lit (.bool true)], args := [d1, d2, d3] }
  | _ => none }
def fruitLivesRow : OpenClaim := { program := "ytmkpblfacnnnoaa", sum := "0a8ca62a81cb787df146e79ffb4e7c043085d8e921eb484841fd8406b4d212ff", func := "clearway/clearwaylaw12.FruitLives", spec := "fruitLives", unfollowed := true, recurses := true, apart := false }
def FruitLivesSaid : Prop := fruitLivesRow.holds Try.pinned (OpenSpec.ofChange fruitLivesSpec)

/-- ITS FALSE NEIGHBOUR: 'it returns false'. Refute it at one input. -/
def fruitLivesWrong : ChangeSpec := { name := "fruitLives", fn := fun _ => fun
  | [d1, d2, d3] => { results := [.lit (.bool false)], args := [d1, d2, d3] }
  | _ => none }
def FruitLivesWrongFalsely : Prop := fruitLivesRow.holds Try.pinned (OpenSpec.ofChange fruitLivesWrong)

/-- 'clearwaylaw12.FruitLeast': WHATEVER THE INPUT: true; the input reads as it did. -/
def fruitLeastSpec : ChangeSpec := { name := "fruitLeast", fn := fun _ => fun
  | [d1, d2, d3] => { results := [.lit (.bool true)], args := [d1, d2, d3] }
  | _ => none }
def fruitLeastRow : OpenClaim := { program := "ytmkpblfacnnnoaa", sum := "0a8ca62a81cb787df146e79ffb4e7c043085d8e921eb484841fd8406b4d212ff", func := "clearway/clearwaylaw12.FruitLeast", spec := "fruitLeast", unfollowed := true, recurses := true, apart := false }
def FruitLeastSaid : Prop := fruitLeastRow.holds Try.pinned (OpenSpec.ofChange fruitLeastSpec)

/-- ITS FALSE NEIGHBOUR: 'it returns false'. Refute it at one input. -/
def fruitLeastWrong : ChangeSpec := { name := "fruitLeast", fn := fun _ => fun
  | [d1, d2, d3] => { results := [.lit (.bool false)], args := [d1, d2, d3] }
  | _ => none }
def FruitLeastWrongFalsely : Prop := fruitLeastRow.holds Try.pinned (OpenSpec.ofChange fruitLeastWrong)

/-- 'clearwaylaw12.FruitForm': WHATEVER THE INPUT: true; the input reads as it did. -/
def fruitFormSpec : ChangeSpec := { name := "fruitForm", fn := fun _ => fun
  | [d1, d2, d3] => { results := [.lit (.bool true)], args := [d1, d2, d3] }
  | _ => none }
def fruitFormRow : OpenClaim := { program := "ytmkpblfacnnnoaa", sum := "0a8ca62a81cb787df146e79ffb4e7c043085d8e921eb484841fd8406b4d212ff", func := "clearway/clearwaylaw12.FruitForm", spec := "fruitForm", unfollowed := true, recurses := true, apart := false }
def FruitFormSaid : Prop := fruitFormRow.holds Try.pinned (OpenSpec.ofChange fruitFormSpec)

/-- ITS FALSE NEIGHBOUR: 'it returns false'. Refute it at one input. -/
def fruitFormWrong : ChangeSpec := { name := "fruitForm", fn := fun _ => fun
  | [d1, d2, d3] => { results := [.lit (.bool false)], args := [d1, d2, d3] }
  | _ => none }
def FruitFormWrongFalsely : Prop := fruitFormRow.holds Try.pinned (OpenSpec.ofChange fruitFormWrong)

/-- 'clearwaylaw12.FruitAlone': WHATEVER THE INPUT: true; the input reads as it did. -/
def fruitAloneSpec : ChangeSpec := { name := "fruitAlone", fn := fun _ => fun
  | [d1, d2, d3] => { results := [.lit (.bool true)], args := [d1, d2, d3] }
  | _ => none }
def fruitAloneRow : OpenClaim := { program := "ytmkpblfacnnnoaa", sum := "0a8ca62a81cb787df146e79ffb4e7c043085d8e921eb484841fd8406b4d212ff", func := "clearway/clearwaylaw12.FruitAlone", spec := "fruitAlone", unfollowed := true, recurses := true, apart := false }
def FruitAloneSaid : Prop := fruitAloneRow.holds Try.pinned (OpenSpec.ofChange fruitAloneSpec)

/-- ITS FALSE NEIGHBOUR: 'it returns false'. Refute it at one input. -/
def fruitAloneWrong : ChangeSpec := { name := "fruitAlone", fn := fun _ => fun
  | [d1, d2, d3] => { results := [.lit (.bool false)], args := [d1, d2, d3] }
  | _ => none }
def FruitAloneWrongFalsely : Prop := fruitAloneRow.holds Try.pinned (OpenSpec.ofChange fruitAloneWrong)

/-- 'clearwaylaw12.FruitWider': WHATEVER THE INPUT: true; the input reads as it did. -/
def fruitWiderSpec : ChangeSpec := { name := "fruitWider", fn := fun _ => fun
  | [d1, d2, d3, d4, d5] => { results := [.lit (.bool true)], args := [d1, d2, d3, d4, d5] }
  | _ => none }
def fruitWiderRow : OpenClaim := { program := "ytmkpblfacnnnoaa", sum := "0a8ca62a81cb787df146e79ffb4e7c043085d8e921eb484841fd8406b4d212ff", func := "clearway/clearwaylaw12.FruitWider", spec := "fruitWider", unfollowed := true, recurses := true, apart := false }
def FruitWiderSaid : Prop := fruitWiderRow.holds Try.pinned (OpenSpec.ofChange fruitWiderSpec)

/-- ITS FALSE NEIGHBOUR: 'it returns false'. Refute it at one input. -/
def fruitWiderWrong : ChangeSpec := { name := "fruitWider", fn := fun _ => fun
  | [d1, d2, d3, d4, d5] => { results := [.lit (.bool false)], args := [d1, d2, d3, d4, d5] }
  | _ => none }
def FruitWiderWrongFalsely : Prop := fruitWiderRow.holds Try.pinned (OpenSpec.ofChange fruitWiderWrong)

/-- 'clearwaylaw12.FruitExamples': WHATEVER THE INPUT: true; the input reads as it did. -/
def fruitExamplesSpec : ChangeSpec := { name := "fruitExamples", fn := fun _ => fun
  | [] => { results := [.lit (.bool true)], args := [] }
  | _ => none }
def fruitExamplesRow : OpenClaim := { program := "ytmkpblfacnnnoaa", sum := "0a8ca62a81cb787df146e79ffb4e7c043085d8e921eb484841fd8406b4d212ff", func := "clearway/clearwaylaw12.FruitExamples", spec := "fruitExamples", unfollowed := true, recurses := true, apart := false }
def FruitExamplesSaid : Prop := fruitExamplesRow.holds Try.pinned (OpenSpec.ofChange fruitExamplesSpec)

/-- ITS FALSE NEIGHBOUR: 'it returns false'. Refute it at one input. -/
def fruitExamplesWrong : ChangeSpec := { name := "fruitExamples", fn := fun _ => fun
  | [] => { results := [.lit (.bool false)], args := [] }
  | _ => none }
def FruitExamplesWrongFalsely : Prop := fruitExamplesRow.holds Try.pinned (OpenSpec.ofChange fruitExamplesWrong)

/- THE SECOND FORM. 'bulk': how many values and letters a reading holds, each counted each time it is reached (what is shared counts as often as it is met; a slice's spare places count too). A statement '..UptoSaid' is the law's where the arguments, and the package variables that the reading takes, are together of bulk at most 1048576: NARROWER than '..Said'. Prove '..Said' where nothing that the law and all that it calls make is longer than what came in: it says more and counts as full. Else prove '..UptoSaid'. A law counts once. -/
mutual
def uptoBulk {H : Type} : DataW H → Nat
  | .lit (.string bytes) => bytes.length + 1
  | .lit _ => 1
  | .nil => 1
  | .ptr d => uptoBulk d + 1
  | .slice elems spare => uptoBulkAll elems + uptoBulkAll spare + 1
  | .agg parts => uptoBulkAll parts + 1
  | .iface _ d => uptoBulk d + 1
  | .map entries => uptoBulkEntries entries + 1
  | .held _ => 1
def uptoBulkAll {H : Type} : List (DataW H) → Nat
  | [] => 0
  | d :: r => uptoBulk d + uptoBulkAll r
def uptoBulkEntries {H : Type} : List (Lit × DataW H) → Nat
  | [] => 0
  | x :: r => uptoBulkEntry x + uptoBulkEntries r
def uptoBulkEntry {H : Type} : Lit × DataW H → Nat
  | (.string bytes, d) => bytes.length + uptoBulk d + 1
  | (_, d) => uptoBulk d + 1
 end
def uptoSmall : (H : Type) → List (DataW H) → Bool := fun _ ds => decide (uptoBulkAll ds ≤ 1048576)
def OpenSpec.upto (s : _root_.Go.ChangeSpec) : _root_.Go.OpenSpec := { _root_.Go.OpenSpec.ofChange s with cond := some uptoSmall }

/-- 'clearwaylaw12.FruitMatches', WHERE WHAT IT READS IS OF BULK AT MOST 1048576: true; the input reads as it did. -/
def fruitMatchesUptoRow : OpenClaim := { program := "ytmkpblfacnnnoaa", sum := "0a8ca62a81cb787df146e79ffb4e7c043085d8e921eb484841fd8406b4d212ff", func := "clearway/clearwaylaw12.FruitMatches", spec := "fruitMatches", unfollowed := true, recurses := true, apart := false, narrowed := true }
def FruitMatchesUptoSaid : Prop := fruitMatchesUptoRow.holds Try.pinned (OpenSpec.upto fruitMatchesSpec)

/-- 'clearwaylaw12.FruitLives', WHERE WHAT IT READS IS OF BULK AT MOST 1048576: true; the input reads as it did. -/
def fruitLivesUptoRow : OpenClaim := { program := "ytmkpblfacnnnoaa", sum := "0a8ca62a81cb787df146e79ffb4e7c043085d8e921eb484841fd8406b4d212ff", func := "clearway/clearwaylaw12.FruitLives", spec := "fruitLives", unfollowed := true, recurses := true, apart := false, narrowed := true }
def FruitLivesUptoSaid : Prop := fruitLivesUptoRow.holds Try.pinned (OpenSpec.upto fruitLivesSpec)

/-- 'clearwaylaw12.FruitLeast', WHERE WHAT IT READS IS OF BULK AT MOST 1048576: true; the input reads as it did. -/
def fruitLeastUptoRow : OpenClaim := { program := "ytmkpblfacnnnoaa", sum := "0a8ca62a81cb787df146e79ffb4e7c043085d8e921eb484841fd8406b4d212ff", func := "clearway/clearwaylaw12.FruitLeast", spec := "fruitLeast", unfollowed := true, recurses := true, apart := false, narrowed := true }
def FruitLeastUptoSaid : Prop := fruitLeastUptoRow.holds Try.pinned (OpenSpec.upto fruitLeastSpec)

/-- 'clearwaylaw12.FruitForm', WHERE WHAT IT READS IS OF BULK AT MOST 1048576: true; the input reads as it did. -/
def fruitFormUptoRow : OpenClaim := { program := "ytmkpblfacnnnoaa", sum := "0a8ca62a81cb787df146e79ffb4e7c043085d8e921eb484841fd8406b4d212ff", func := "clearway/clearwaylaw12.FruitForm", spec := "fruitForm", unfollowed := true, recurses := true, apart := false, narrowed := true }
def FruitFormUptoSaid : Prop := fruitFormUptoRow.holds Try.pinned (OpenSpec.upto fruitFormSpec)

/-- 'clearwaylaw12.FruitAlone', WHERE WHAT IT READS IS OF BULK AT MOST 1048576: true; the input reads as it did. -/
def fruitAloneUptoRow : OpenClaim := { program := "ytmkpblfacnnnoaa", sum := "0a8ca62a81cb787df146e79ffb4e7c043085d8e921eb484841fd8406b4d212ff", func := "clearway/clearwaylaw12.FruitAlone", spec := "fruitAlone", unfollowed := true, recurses := true, apart := false, narrowed := true }
def FruitAloneUptoSaid : Prop := fruitAloneUptoRow.holds Try.pinned (OpenSpec.upto fruitAloneSpec)

/-- 'clearwaylaw12.FruitWider', WHERE WHAT IT READS IS OF BULK AT MOST 1048576: true; the input reads as it did. -/
def fruitWiderUptoRow : OpenClaim := { program := "ytmkpblfacnnnoaa", sum := "0a8ca62a81cb787df146e79ffb4e7c043085d8e921eb484841fd8406b4d212ff", func := "clearway/clearwaylaw12.FruitWider", spec := "fruitWider", unfollowed := true, recurses := true, apart := false, narrowed := true }
def FruitWiderUptoSaid : Prop := fruitWiderUptoRow.holds Try.pinned (OpenSpec.upto fruitWiderSpec)

/-- 'clearwaylaw12.FruitExamples', WHERE WHAT IT READS IS OF BULK AT MOST 1048576: true; the input reads as it did. -/
def fruitExamplesUptoRow : OpenClaim := { program := "ytmkpblfacnnnoaa", sum := "0a8ca62a81cb787df146e79ffb4e7c043085d8e921eb484841fd8406b4d212ff", func := "clearway/clearwaylaw12.FruitExamples", spec := "fruitExamples", unfollowed := true, recurses := true, apart := false, narrowed := true }
def FruitExamplesUptoSaid : Prop := fruitExamplesUptoRow.holds Try.pinned (OpenSpec.upto fruitExamplesSpec)

end Rows
end Go.Proofs.Ytmkpblfacnnnoaa
