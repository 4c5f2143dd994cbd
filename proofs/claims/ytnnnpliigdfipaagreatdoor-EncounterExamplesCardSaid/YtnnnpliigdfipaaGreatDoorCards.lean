/-
  DERIVED. GIVEN WITH THE SEED: THE CARDS: each row of YtnnnpliigdfipaaGreatDoorRows.lean that lists a variable, with what it lists TIED to the program's text (the seventh form; the later family's looks); each row that meets fmt, with fmt's text TOLD by the authors' own Lean function (tested against real Go, not proved from fmt's source: count such statements apart). THE CARD IS WHAT COUNTS. Prove the row's statement (the work); the ties are given (YtnnnpliigdfipaaGreatDoorTie.lean); close each card by the builder's one call (the guide's Derived/Test/ToyasCard.lean, 'card_holds'). Laid BY PROGRAM, IN A SANDBOX (cutbox-door.mjs). By AI agents, Wed Nov 11 2026. No macro, syntax, notation, axiom, sorry.
-/
import Derived.Test.YtnnnpliigdfipaaGreatDoorRows
import GoSem.ClaimSeven
namespace Go.Proofs.YtnnnpliigdfipaaGreatDoor
namespace Rows

/-- THE TIED CARD OF 'clearwaylaw39.EncounterTexts'. -/
def encounterTextsCard : Claim7 := { stood := { row := encounterTextsRow, standIns := [], harness := (true, "c6874efa1c691e563a62adc86f37c3ef6c9bf96d2bcd5d0f6e4a52c60812ef4d"), looks := true }, kinds := [], alts := [], laidByText := true, laidKinds := [.data, .data, .data, .data, .sentinel, .sentinel, .pinned], laidTests := true, laidLooks := .later }
def EncounterTextsCardSaid : Prop := Claim7.holds Tryz.pinned (.plain (OpenSpec.ofChange encounterTextsSpec)) encounterTextsCard

/-- THE TIED CARD OF 'clearwaylaw39.EncounterFlights'. -/
def encounterFlightsCard : Claim7 := { stood := { row := encounterFlightsRow, standIns := [], harness := (true, "c6874efa1c691e563a62adc86f37c3ef6c9bf96d2bcd5d0f6e4a52c60812ef4d"), looks := true }, kinds := [], alts := [], laidByText := true, laidKinds := [.data, .data, .data, .data, .sentinel, .sentinel, .pinned], laidTests := true, laidLooks := .later }
def EncounterFlightsCardSaid : Prop := Claim7.holds Tryz.pinned (.plain (OpenSpec.ofChange encounterFlightsSpec)) encounterFlightsCard

/-- THE TIED CARD OF 'clearwaylaw39.EncounterExamples'. -/
def encounterExamplesCard : Claim7 := { stood := { row := encounterExamplesRow, standIns := [], harness := (true, "c6874efa1c691e563a62adc86f37c3ef6c9bf96d2bcd5d0f6e4a52c60812ef4d"), looks := true }, kinds := [], alts := [], laidByText := true, laidKinds := [.data, .data, .data, .data, .sentinel, .sentinel, .pinned], laidTests := true, laidLooks := .later }
def EncounterExamplesCardSaid : Prop := Claim7.holds Tryz.pinned (.plain (OpenSpec.ofChange encounterExamplesSpec)) encounterExamplesCard

/-- THE TIED CARD OF 'clearwaylaw39.EncounterRoundTrip'. -/
def encounterRoundTripCard : Claim7 := { stood := { row := encounterRoundTripRow, standIns := [], harness := (true, "c6874efa1c691e563a62adc86f37c3ef6c9bf96d2bcd5d0f6e4a52c60812ef4d"), looks := true }, kinds := [], alts := [], laidByText := true, laidKinds := [.data, .data, .data, .data, .sentinel, .sentinel, .pinned], laidTests := true, laidLooks := .later }
def EncounterRoundTripCardSaid : Prop := Claim7.holds Tryz.pinned (.plain (OpenSpec.ofChange encounterRoundTripSpec)) encounterRoundTripCard

/-- THE TIED CARD OF 'clearwaylaw39.EncounterPulls'. -/
def encounterPullsCard : Claim7 := { stood := { row := encounterPullsRow, standIns := [], harness := (true, "c6874efa1c691e563a62adc86f37c3ef6c9bf96d2bcd5d0f6e4a52c60812ef4d"), looks := true }, kinds := [], alts := [], laidByText := true, laidKinds := [.data, .data, .data, .data, .sentinel, .sentinel, .pinned], laidTests := true, laidLooks := .later }
def EncounterPullsCardSaid : Prop := Claim7.holds Tryz.pinned (.plain (OpenSpec.ofChange encounterPullsSpec)) encounterPullsCard

/-- THE TIED CARD OF 'clearwaylaw39.EncounterAlone'. -/
def encounterAloneCard : Claim7 := { stood := { row := encounterAloneRow, standIns := [], harness := (true, "c6874efa1c691e563a62adc86f37c3ef6c9bf96d2bcd5d0f6e4a52c60812ef4d"), looks := true }, kinds := [], alts := [], laidByText := true, laidKinds := [.data, .data, .data, .data, .sentinel, .sentinel, .pinned], laidTests := true, laidLooks := .later }
def EncounterAloneCardSaid : Prop := Claim7.holds Tryz.pinned (.plain (OpenSpec.ofChange encounterAloneSpec)) encounterAloneCard

/-- THE TIED CARD OF 'clearwaylaw39.EncounterNearest'. -/
def encounterNearestCard : Claim7 := { stood := { row := encounterNearestRow, standIns := [], harness := (true, "c6874efa1c691e563a62adc86f37c3ef6c9bf96d2bcd5d0f6e4a52c60812ef4d"), looks := true }, kinds := [], alts := [], laidByText := true, laidKinds := [.data, .data, .data, .data, .sentinel, .sentinel, .pinned], laidTests := true, laidLooks := .later }
def EncounterNearestCardSaid : Prop := Claim7.holds Tryz.pinned (.plain (OpenSpec.ofChange encounterNearestSpec)) encounterNearestCard

/-- THE SECOND FORM's CARD OF 'clearwaylaw39.EncounterTexts'. -/
def encounterTextsUptoCard : Claim7 := { stood := { row := encounterTextsUptoRow, standIns := [], harness := (true, "c6874efa1c691e563a62adc86f37c3ef6c9bf96d2bcd5d0f6e4a52c60812ef4d"), looks := true }, kinds := [], alts := [], laidByText := true, laidKinds := [.data, .data, .data, .data, .sentinel, .sentinel, .pinned], laidTests := true, laidLooks := .later }
def EncounterTextsUptoCardSaid : Prop := Claim7.holds Tryz.pinned (.plain (OpenSpec.upto encounterTextsSpec)) encounterTextsUptoCard

/-- THE SECOND FORM's CARD OF 'clearwaylaw39.EncounterFlights'. -/
def encounterFlightsUptoCard : Claim7 := { stood := { row := encounterFlightsUptoRow, standIns := [], harness := (true, "c6874efa1c691e563a62adc86f37c3ef6c9bf96d2bcd5d0f6e4a52c60812ef4d"), looks := true }, kinds := [], alts := [], laidByText := true, laidKinds := [.data, .data, .data, .data, .sentinel, .sentinel, .pinned], laidTests := true, laidLooks := .later }
def EncounterFlightsUptoCardSaid : Prop := Claim7.holds Tryz.pinned (.plain (OpenSpec.upto encounterFlightsSpec)) encounterFlightsUptoCard

/-- THE SECOND FORM's CARD OF 'clearwaylaw39.EncounterExamples'. -/
def encounterExamplesUptoCard : Claim7 := { stood := { row := encounterExamplesUptoRow, standIns := [], harness := (true, "c6874efa1c691e563a62adc86f37c3ef6c9bf96d2bcd5d0f6e4a52c60812ef4d"), looks := true }, kinds := [], alts := [], laidByText := true, laidKinds := [.data, .data, .data, .data, .sentinel, .sentinel, .pinned], laidTests := true, laidLooks := .later }
def EncounterExamplesUptoCardSaid : Prop := Claim7.holds Tryz.pinned (.plain (OpenSpec.upto encounterExamplesSpec)) encounterExamplesUptoCard

/-- THE SECOND FORM's CARD OF 'clearwaylaw39.EncounterRoundTrip'. -/
def encounterRoundTripUptoCard : Claim7 := { stood := { row := encounterRoundTripUptoRow, standIns := [], harness := (true, "c6874efa1c691e563a62adc86f37c3ef6c9bf96d2bcd5d0f6e4a52c60812ef4d"), looks := true }, kinds := [], alts := [], laidByText := true, laidKinds := [.data, .data, .data, .data, .sentinel, .sentinel, .pinned], laidTests := true, laidLooks := .later }
def EncounterRoundTripUptoCardSaid : Prop := Claim7.holds Tryz.pinned (.plain (OpenSpec.upto encounterRoundTripSpec)) encounterRoundTripUptoCard

/-- THE SECOND FORM's CARD OF 'clearwaylaw39.EncounterPulls'. -/
def encounterPullsUptoCard : Claim7 := { stood := { row := encounterPullsUptoRow, standIns := [], harness := (true, "c6874efa1c691e563a62adc86f37c3ef6c9bf96d2bcd5d0f6e4a52c60812ef4d"), looks := true }, kinds := [], alts := [], laidByText := true, laidKinds := [.data, .data, .data, .data, .sentinel, .sentinel, .pinned], laidTests := true, laidLooks := .later }
def EncounterPullsUptoCardSaid : Prop := Claim7.holds Tryz.pinned (.plain (OpenSpec.upto encounterPullsSpec)) encounterPullsUptoCard

/-- THE SECOND FORM's CARD OF 'clearwaylaw39.EncounterAlone'. -/
def encounterAloneUptoCard : Claim7 := { stood := { row := encounterAloneUptoRow, standIns := [], harness := (true, "c6874efa1c691e563a62adc86f37c3ef6c9bf96d2bcd5d0f6e4a52c60812ef4d"), looks := true }, kinds := [], alts := [], laidByText := true, laidKinds := [.data, .data, .data, .data, .sentinel, .sentinel, .pinned], laidTests := true, laidLooks := .later }
def EncounterAloneUptoCardSaid : Prop := Claim7.holds Tryz.pinned (.plain (OpenSpec.upto encounterAloneSpec)) encounterAloneUptoCard

/-- THE SECOND FORM's CARD OF 'clearwaylaw39.EncounterNearest'. -/
def encounterNearestUptoCard : Claim7 := { stood := { row := encounterNearestUptoRow, standIns := [], harness := (true, "c6874efa1c691e563a62adc86f37c3ef6c9bf96d2bcd5d0f6e4a52c60812ef4d"), looks := true }, kinds := [], alts := [], laidByText := true, laidKinds := [.data, .data, .data, .data, .sentinel, .sentinel, .pinned], laidTests := true, laidLooks := .later }
def EncounterNearestUptoCardSaid : Prop := Claim7.holds Tryz.pinned (.plain (OpenSpec.upto encounterNearestSpec)) encounterNearestUptoCard
end Rows
end Go.Proofs.YtnnnpliigdfipaaGreatDoor
