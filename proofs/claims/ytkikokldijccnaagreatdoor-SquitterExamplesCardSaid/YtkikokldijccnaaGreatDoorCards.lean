/-
  DERIVED. GIVEN WITH THE SEED: THE CARDS: each row of YtkikokldijccnaaGreatDoorRows.lean that lists a variable, with what it lists TIED to the program's text (the seventh form; the later family's looks); each row that meets fmt, with fmt's text TOLD by the authors' own Lean function (tested against real Go, not proved from fmt's source: count such statements apart). THE CARD IS WHAT COUNTS. Prove the row's statement (the work); the ties are given (YtkikokldijccnaaGreatDoorTie.lean); close each card by the builder's one call (the guide's Derived/Test/ToyasCard.lean, 'card_holds'). Laid BY PROGRAM, IN A SANDBOX (cutbox-door.mjs). By AI agents, Wed Nov 11 2026. No macro, syntax, notation, axiom, sorry.
-/
import Derived.Test.YtkikokldijccnaaGreatDoorRows
import GoSem.ClaimSeven
namespace Go.Proofs.YtkikokldijccnaaGreatDoor
namespace Rows

/-- THE TIED CARD OF 'clearwaylaw14.SquitterExamples'. -/
def squitterExamplesCard : Claim7 := { stood := { row := squitterExamplesRow, standIns := [], harness := (true, "a46d32bf6623706f8005802c8e3a044088a2c78c2b756e2b4f2eeeca3393f12c"), looks := true }, kinds := [], alts := [], laidByText := true, laidKinds := [.data, .data, .data, .data, .sentinel, .sentinel, .pinned], laidTests := true, laidLooks := .later }
def SquitterExamplesCardSaid : Prop := Claim7.holds Tryz.pinned (.plain (OpenSpec.ofChange squitterExamplesSpec)) squitterExamplesCard

/-- THE SECOND FORM's CARD OF 'clearwaylaw14.SquitterExamples'. -/
def squitterExamplesUptoCard : Claim7 := { stood := { row := squitterExamplesUptoRow, standIns := [], harness := (true, "a46d32bf6623706f8005802c8e3a044088a2c78c2b756e2b4f2eeeca3393f12c"), looks := true }, kinds := [], alts := [], laidByText := true, laidKinds := [.data, .data, .data, .data, .sentinel, .sentinel, .pinned], laidTests := true, laidLooks := .later }
def SquitterExamplesUptoCardSaid : Prop := Claim7.holds Tryz.pinned (.plain (OpenSpec.upto squitterExamplesSpec)) squitterExamplesUptoCard
end Rows
end Go.Proofs.YtkikokldijccnaaGreatDoor
