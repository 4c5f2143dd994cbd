/-
  DERIVED. GIVEN WITH THE SEED: THE CARDS: each row of YtkikokldijccnaaDoorRows.lean that lists a variable, with what it lists TIED to the program's text (the seventh form; the later family's looks); each row that meets fmt, with fmt's text TOLD by the authors' own Lean function (tested against real Go, not proved from fmt's source: count such statements apart). THE CARD IS WHAT COUNTS. Prove the row's statement (the work); the ties are given (YtkikokldijccnaaDoorTie.lean); close each card by the builder's one call (the guide's Derived/Test/ToyasCard.lean, 'card_holds'). Laid BY PROGRAM, IN A SANDBOX (cutbox-door.mjs). By AI agents, Wed Nov 11 2026. No macro, syntax, notation, axiom, sorry.
-/
import Derived.Test.YtkikokldijccnaaDoorRows
import GoSem.ClaimSeven
namespace Go.Proofs.YtkikokldijccnaaDoor
namespace Rows

/-- THE TIED CARD OF 'clearwaylaw14.SquitterRuns'. -/
def squitterRunsCard : Claim7 := { stood := { row := squitterRunsRow, standIns := [], harness := (true, "7389246ded6ecd58bf41a531ed49b750f34f657c65abafc8549e747a6fd805c0"), looks := true }, kinds := [], alts := [], laidByText := true, laidKinds := [.data, .data, .data], laidTests := true, laidLooks := .later }
def SquitterRunsCardSaid : Prop := Claim7.holds Tryd.pinned (.plain (OpenSpec.ofChange squitterRunsSpec)) squitterRunsCard

/-- THE TIED CARD OF 'clearwaylaw14.SquitterHistory'. -/
def squitterHistoryCard : Claim7 := { stood := { row := squitterHistoryRow, standIns := [], harness := (true, "7389246ded6ecd58bf41a531ed49b750f34f657c65abafc8549e747a6fd805c0"), looks := true }, kinds := [], alts := [], laidByText := true, laidKinds := [.data, .data, .data], laidTests := true, laidLooks := .later }
def SquitterHistoryCardSaid : Prop := Claim7.holds Tryd.pinned (.plain (OpenSpec.ofChange squitterHistorySpec)) squitterHistoryCard

/-- THE TIED CARD OF 'clearwaylaw14.SquitterOrder'. -/
def squitterOrderCard : Claim7 := { stood := { row := squitterOrderRow, standIns := [], harness := (true, "7389246ded6ecd58bf41a531ed49b750f34f657c65abafc8549e747a6fd805c0"), looks := true }, kinds := [], alts := [], laidByText := true, laidKinds := [.data, .data, .data], laidTests := true, laidLooks := .later }
def SquitterOrderCardSaid : Prop := Claim7.holds Tryd.pinned (.plain (OpenSpec.ofChange squitterOrderSpec)) squitterOrderCard

/-- THE TIED CARD OF 'clearwaylaw14.SquitterSaves'. -/
def squitterSavesCard : Claim7 := { stood := { row := squitterSavesRow, standIns := [], harness := (true, "7389246ded6ecd58bf41a531ed49b750f34f657c65abafc8549e747a6fd805c0"), looks := true }, kinds := [], alts := [], laidByText := true, laidKinds := [.data, .data, .data, .data, .sentinel, .sentinel, .pinned], laidTests := true, laidLooks := .later }
def SquitterSavesCardSaid : Prop := Claim7.holds Tryd.pinned (.plain (OpenSpec.ofChange squitterSavesSpec)) squitterSavesCard

/-- THE TIED CARD OF 'clearwaylaw14.SquitterLoads'. -/
def squitterLoadsCard : Claim7 := { stood := { row := squitterLoadsRow, standIns := [], harness := (true, "7389246ded6ecd58bf41a531ed49b750f34f657c65abafc8549e747a6fd805c0"), looks := true }, kinds := [], alts := [], laidByText := true, laidKinds := [.data, .data, .data, .data, .sentinel, .sentinel, .pinned], laidTests := true, laidLooks := .later }
def SquitterLoadsCardSaid : Prop := Claim7.holds Tryd.pinned (.plain (OpenSpec.ofChange squitterLoadsSpec)) squitterLoadsCard

/-- THE SECOND FORM's CARD OF 'clearwaylaw14.SquitterRuns'. -/
def squitterRunsUptoCard : Claim7 := { stood := { row := squitterRunsUptoRow, standIns := [], harness := (true, "7389246ded6ecd58bf41a531ed49b750f34f657c65abafc8549e747a6fd805c0"), looks := true }, kinds := [], alts := [], laidByText := true, laidKinds := [.data, .data, .data], laidTests := true, laidLooks := .later }
def SquitterRunsUptoCardSaid : Prop := Claim7.holds Tryd.pinned (.plain (OpenSpec.upto squitterRunsSpec)) squitterRunsUptoCard

/-- THE SECOND FORM's CARD OF 'clearwaylaw14.SquitterHistory'. -/
def squitterHistoryUptoCard : Claim7 := { stood := { row := squitterHistoryUptoRow, standIns := [], harness := (true, "7389246ded6ecd58bf41a531ed49b750f34f657c65abafc8549e747a6fd805c0"), looks := true }, kinds := [], alts := [], laidByText := true, laidKinds := [.data, .data, .data], laidTests := true, laidLooks := .later }
def SquitterHistoryUptoCardSaid : Prop := Claim7.holds Tryd.pinned (.plain (OpenSpec.upto squitterHistorySpec)) squitterHistoryUptoCard

/-- THE SECOND FORM's CARD OF 'clearwaylaw14.SquitterOrder'. -/
def squitterOrderUptoCard : Claim7 := { stood := { row := squitterOrderUptoRow, standIns := [], harness := (true, "7389246ded6ecd58bf41a531ed49b750f34f657c65abafc8549e747a6fd805c0"), looks := true }, kinds := [], alts := [], laidByText := true, laidKinds := [.data, .data, .data], laidTests := true, laidLooks := .later }
def SquitterOrderUptoCardSaid : Prop := Claim7.holds Tryd.pinned (.plain (OpenSpec.upto squitterOrderSpec)) squitterOrderUptoCard

/-- THE SECOND FORM's CARD OF 'clearwaylaw14.SquitterSaves'. -/
def squitterSavesUptoCard : Claim7 := { stood := { row := squitterSavesUptoRow, standIns := [], harness := (true, "7389246ded6ecd58bf41a531ed49b750f34f657c65abafc8549e747a6fd805c0"), looks := true }, kinds := [], alts := [], laidByText := true, laidKinds := [.data, .data, .data, .data, .sentinel, .sentinel, .pinned], laidTests := true, laidLooks := .later }
def SquitterSavesUptoCardSaid : Prop := Claim7.holds Tryd.pinned (.plain (OpenSpec.upto squitterSavesSpec)) squitterSavesUptoCard

/-- THE SECOND FORM's CARD OF 'clearwaylaw14.SquitterLoads'. -/
def squitterLoadsUptoCard : Claim7 := { stood := { row := squitterLoadsUptoRow, standIns := [], harness := (true, "7389246ded6ecd58bf41a531ed49b750f34f657c65abafc8549e747a6fd805c0"), looks := true }, kinds := [], alts := [], laidByText := true, laidKinds := [.data, .data, .data, .data, .sentinel, .sentinel, .pinned], laidTests := true, laidLooks := .later }
def SquitterLoadsUptoCardSaid : Prop := Claim7.holds Tryd.pinned (.plain (OpenSpec.upto squitterLoadsSpec)) squitterLoadsUptoCard
end Rows
end Go.Proofs.YtkikokldijccnaaDoor
