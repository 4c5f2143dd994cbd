/-
  DERIVED. GIVEN WITH THE SEED: THE CARDS: each row of YtmalpalepaomdaaDoorRows.lean that lists a variable, with what it lists TIED to the program's text (the seventh form; the later family's looks); each row that meets fmt, with fmt's text TOLD by the authors' own Lean function (tested against real Go, not proved from fmt's source: count such statements apart). THE CARD IS WHAT COUNTS. Prove the row's statement (the work); the ties are given (YtmalpalepaomdaaDoorTie.lean); close each card by the builder's one call (the guide's Derived/Test/ToyasCard.lean, 'card_holds'). Laid BY PROGRAM, IN A SANDBOX (cutbox-door.mjs). By AI agents, Wed Nov 11 2026. No macro, syntax, notation, axiom, sorry.
-/
import Derived.Test.YtmalpalepaomdaaDoorRows
import GoSem.ClaimSeven
namespace Go.Proofs.YtmalpalepaomdaaDoor
namespace Rows

/-- THE TIED CARD OF 'clearwaylaw04.FixedRounds'. -/
def fixedRoundsCard : Claim7 := { stood := { row := fixedRoundsRow, standIns := [], harness := (true, "8384a261450f14d36f0b3d90414bd5cbeab4d129fd0487fa29b95335b68da24e"), looks := true }, kinds := [], alts := [], laidByText := true, laidKinds := [.data, .data, .data], laidTests := true, laidLooks := .later }
def FixedRoundsCardSaid : Prop := Claim7.holds Tryd.pinned (.plain (OpenSpec.ofChange fixedRoundsSpec)) fixedRoundsCard

/-- THE TIED CARD OF 'clearwaylaw04.FixedNearest'. -/
def fixedNearestCard : Claim7 := { stood := { row := fixedNearestRow, standIns := [], harness := (true, "8384a261450f14d36f0b3d90414bd5cbeab4d129fd0487fa29b95335b68da24e"), looks := true }, kinds := [], alts := [], laidByText := true, laidKinds := [.data, .data, .data], laidTests := true, laidLooks := .later }
def FixedNearestCardSaid : Prop := Claim7.holds Tryd.pinned (.plain (OpenSpec.ofChange fixedNearestSpec)) fixedNearestCard

/-- THE TIED CARD OF 'clearwaylaw04.FixedAlgebra'. -/
def fixedAlgebraCard : Claim7 := { stood := { row := fixedAlgebraRow, standIns := [], harness := (true, "8384a261450f14d36f0b3d90414bd5cbeab4d129fd0487fa29b95335b68da24e"), looks := true }, kinds := [], alts := [], laidByText := true, laidKinds := [.data, .data, .data], laidTests := true, laidLooks := .later }
def FixedAlgebraCardSaid : Prop := Claim7.holds Tryd.pinned (.plain (OpenSpec.ofChange fixedAlgebraSpec)) fixedAlgebraCard

/-- THE TIED CARD OF 'clearwaylaw04.FixedMatches'. -/
def fixedMatchesCard : Claim7 := { stood := { row := fixedMatchesRow, standIns := [], harness := (true, "8384a261450f14d36f0b3d90414bd5cbeab4d129fd0487fa29b95335b68da24e"), looks := true }, kinds := [], alts := [], laidByText := true, laidKinds := [.data, .data, .data], laidTests := true, laidLooks := .later }
def FixedMatchesCardSaid : Prop := Claim7.holds Tryd.pinned (.plain (OpenSpec.ofChange fixedMatchesSpec)) fixedMatchesCard

/-- THE TIED CARD OF 'clearwaylaw04.FixedReads'. -/
def fixedReadsCard : Claim7 := { stood := { row := fixedReadsRow, standIns := [], harness := (true, "8384a261450f14d36f0b3d90414bd5cbeab4d129fd0487fa29b95335b68da24e"), looks := true }, kinds := [], alts := [], laidByText := true, laidKinds := [.data, .data, .data, .sentinel, .sentinel], laidTests := true, laidLooks := .later }
def FixedReadsCardSaid : Prop := Claim7.holds Tryd.pinned (.plain (OpenSpec.ofChange fixedReadsSpec)) fixedReadsCard

/-- THE TIED CARD OF 'clearwaylaw04.FixedTexts'. -/
def fixedTextsCard : Claim7 := { stood := { row := fixedTextsRow, standIns := [], harness := (true, "8384a261450f14d36f0b3d90414bd5cbeab4d129fd0487fa29b95335b68da24e"), looks := true }, kinds := [], alts := [], laidByText := true, laidKinds := [.data, .data, .data, .sentinel, .sentinel], laidTests := true, laidLooks := .later }
def FixedTextsCardSaid : Prop := Claim7.holds Tryd.pinned (.plain (OpenSpec.ofChange fixedTextsSpec)) fixedTextsCard

/-- THE TIED CARD OF 'clearwaylaw04.FixedExamples'. -/
def fixedExamplesCard : Claim7 := { stood := { row := fixedExamplesRow, standIns := [], harness := (true, "8384a261450f14d36f0b3d90414bd5cbeab4d129fd0487fa29b95335b68da24e"), looks := true }, kinds := [], alts := [], laidByText := true, laidKinds := [.data, .data, .data, .sentinel, .sentinel], laidTests := true, laidLooks := .later }
def FixedExamplesCardSaid : Prop := Claim7.holds Tryd.pinned (.plain (OpenSpec.ofChange fixedExamplesSpec)) fixedExamplesCard

/-- THE SECOND FORM's CARD OF 'clearwaylaw04.FixedRounds'. -/
def fixedRoundsUptoCard : Claim7 := { stood := { row := fixedRoundsUptoRow, standIns := [], harness := (true, "8384a261450f14d36f0b3d90414bd5cbeab4d129fd0487fa29b95335b68da24e"), looks := true }, kinds := [], alts := [], laidByText := true, laidKinds := [.data, .data, .data], laidTests := true, laidLooks := .later }
def FixedRoundsUptoCardSaid : Prop := Claim7.holds Tryd.pinned (.plain (OpenSpec.upto fixedRoundsSpec)) fixedRoundsUptoCard

/-- THE SECOND FORM's CARD OF 'clearwaylaw04.FixedNearest'. -/
def fixedNearestUptoCard : Claim7 := { stood := { row := fixedNearestUptoRow, standIns := [], harness := (true, "8384a261450f14d36f0b3d90414bd5cbeab4d129fd0487fa29b95335b68da24e"), looks := true }, kinds := [], alts := [], laidByText := true, laidKinds := [.data, .data, .data], laidTests := true, laidLooks := .later }
def FixedNearestUptoCardSaid : Prop := Claim7.holds Tryd.pinned (.plain (OpenSpec.upto fixedNearestSpec)) fixedNearestUptoCard

/-- THE SECOND FORM's CARD OF 'clearwaylaw04.FixedAlgebra'. -/
def fixedAlgebraUptoCard : Claim7 := { stood := { row := fixedAlgebraUptoRow, standIns := [], harness := (true, "8384a261450f14d36f0b3d90414bd5cbeab4d129fd0487fa29b95335b68da24e"), looks := true }, kinds := [], alts := [], laidByText := true, laidKinds := [.data, .data, .data], laidTests := true, laidLooks := .later }
def FixedAlgebraUptoCardSaid : Prop := Claim7.holds Tryd.pinned (.plain (OpenSpec.upto fixedAlgebraSpec)) fixedAlgebraUptoCard

/-- THE SECOND FORM's CARD OF 'clearwaylaw04.FixedMatches'. -/
def fixedMatchesUptoCard : Claim7 := { stood := { row := fixedMatchesUptoRow, standIns := [], harness := (true, "8384a261450f14d36f0b3d90414bd5cbeab4d129fd0487fa29b95335b68da24e"), looks := true }, kinds := [], alts := [], laidByText := true, laidKinds := [.data, .data, .data], laidTests := true, laidLooks := .later }
def FixedMatchesUptoCardSaid : Prop := Claim7.holds Tryd.pinned (.plain (OpenSpec.upto fixedMatchesSpec)) fixedMatchesUptoCard

/-- THE SECOND FORM's CARD OF 'clearwaylaw04.FixedReads'. -/
def fixedReadsUptoCard : Claim7 := { stood := { row := fixedReadsUptoRow, standIns := [], harness := (true, "8384a261450f14d36f0b3d90414bd5cbeab4d129fd0487fa29b95335b68da24e"), looks := true }, kinds := [], alts := [], laidByText := true, laidKinds := [.data, .data, .data, .sentinel, .sentinel], laidTests := true, laidLooks := .later }
def FixedReadsUptoCardSaid : Prop := Claim7.holds Tryd.pinned (.plain (OpenSpec.upto fixedReadsSpec)) fixedReadsUptoCard

/-- THE SECOND FORM's CARD OF 'clearwaylaw04.FixedTexts'. -/
def fixedTextsUptoCard : Claim7 := { stood := { row := fixedTextsUptoRow, standIns := [], harness := (true, "8384a261450f14d36f0b3d90414bd5cbeab4d129fd0487fa29b95335b68da24e"), looks := true }, kinds := [], alts := [], laidByText := true, laidKinds := [.data, .data, .data, .sentinel, .sentinel], laidTests := true, laidLooks := .later }
def FixedTextsUptoCardSaid : Prop := Claim7.holds Tryd.pinned (.plain (OpenSpec.upto fixedTextsSpec)) fixedTextsUptoCard

/-- THE SECOND FORM's CARD OF 'clearwaylaw04.FixedExamples'. -/
def fixedExamplesUptoCard : Claim7 := { stood := { row := fixedExamplesUptoRow, standIns := [], harness := (true, "8384a261450f14d36f0b3d90414bd5cbeab4d129fd0487fa29b95335b68da24e"), looks := true }, kinds := [], alts := [], laidByText := true, laidKinds := [.data, .data, .data, .sentinel, .sentinel], laidTests := true, laidLooks := .later }
def FixedExamplesUptoCardSaid : Prop := Claim7.holds Tryd.pinned (.plain (OpenSpec.upto fixedExamplesSpec)) fixedExamplesUptoCard
end Rows
end Go.Proofs.YtmalpalepaomdaaDoor
