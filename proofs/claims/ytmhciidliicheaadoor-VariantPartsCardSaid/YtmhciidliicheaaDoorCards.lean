/-
  DERIVED. GIVEN WITH THE SEED: THE CARDS: each row of YtmhciidliicheaaDoorRows.lean that lists a variable, with what it lists TIED to the program's text (the seventh form; the later family's looks); each row that meets fmt, with fmt's text TOLD by the authors' own Lean function (tested against real Go, not proved from fmt's source: count such statements apart). THE CARD IS WHAT COUNTS. Prove the row's statement (the work); the ties are given (YtmhciidliicheaaDoorTie.lean); close each card by the builder's one call (the guide's Derived/Test/ToyasCard.lean, 'card_holds'). Laid BY PROGRAM, IN A SANDBOX (cutbox-door.mjs). By AI agents, Wed Nov 11 2026. No macro, syntax, notation, axiom, sorry.
-/
import Derived.Test.YtmhciidliicheaaDoorRows
import GoSem.ClaimSeven
namespace Go.Proofs.YtmhciidliicheaaDoor
namespace Rows

/-- THE TIED CARD OF 'analemmalaw21.FormatStates'. -/
def formatStatesCard : Claim7 := { stood := { row := formatStatesRow, standIns := [], harness := (true, "c9c74e49c5fba0d6dfaf5f2e8b30a4456284a9396b361d3fde3576ed4bc5fd80"), looks := true }, kinds := [], alts := [], laidByText := true, laidKinds := [.data, .data, .data, .data, .sentinel, .sentinel, .pinned], laidTests := true, laidLooks := .later }
def FormatStatesCardSaid : Prop := Claim7.holds Tryd.pinned (.plain (OpenSpec.ofChange formatStatesSpec)) formatStatesCard

/-- THE TIED CARD OF 'analemmalaw21.FormatNumbers'. -/
def formatNumbersCard : Claim7 := { stood := { row := formatNumbersRow, standIns := [], harness := (true, "c9c74e49c5fba0d6dfaf5f2e8b30a4456284a9396b361d3fde3576ed4bc5fd80"), looks := true }, kinds := [], alts := [], laidByText := true, laidKinds := [.data, .data, .data, .sentinel, .sentinel], laidTests := true, laidLooks := .later }
def FormatNumbersCardSaid : Prop := Claim7.holds Tryd.pinned (.plain (OpenSpec.ofChange formatNumbersSpec)) formatNumbersCard

/-- THE TIED CARD OF 'analemmalaw21.FormatKinds'. -/
def formatKindsCard : Claim7 := { stood := { row := formatKindsRow, standIns := [], harness := (true, "c9c74e49c5fba0d6dfaf5f2e8b30a4456284a9396b361d3fde3576ed4bc5fd80"), looks := true }, kinds := [], alts := [], laidByText := true, laidKinds := [.data, .data, .data, .sentinel, .sentinel], laidTests := true, laidLooks := .later }
def FormatKindsCardSaid : Prop := Claim7.holds Tryd.pinned (.plain (OpenSpec.ofChange formatKindsSpec)) formatKindsCard

/-- THE TIED CARD OF 'analemmalaw21.FormatRefuses'. -/
def formatRefusesCard : Claim7 := { stood := { row := formatRefusesRow, standIns := [], harness := (true, "c9c74e49c5fba0d6dfaf5f2e8b30a4456284a9396b361d3fde3576ed4bc5fd80"), looks := true }, kinds := [], alts := [], laidByText := true, laidKinds := [.data, .data, .data, .sentinel, .sentinel], laidTests := true, laidLooks := .later }
def FormatRefusesCardSaid : Prop := Claim7.holds Tryd.pinned (.plain (OpenSpec.ofChange formatRefusesSpec)) formatRefusesCard

/-- THE TIED CARD OF 'analemmalaw24.VariantParts'. -/
def variantPartsCard : Claim7 := { stood := { row := variantPartsRow, standIns := [], harness := (true, "c9c74e49c5fba0d6dfaf5f2e8b30a4456284a9396b361d3fde3576ed4bc5fd80"), looks := true }, kinds := [], alts := [], laidByText := true, laidKinds := [.data, .data, .data, .sentinel, .sentinel, .widerDeep], laidTests := true, laidLooks := .later }
def VariantPartsCardSaid : Prop := Claim7.holds Tryd.pinned (.plain (OpenSpec.ofChange variantPartsSpec)) variantPartsCard

/-- THE TIED CARD OF 'analemmalaw24.VariantBack'. -/
def variantBackCard : Claim7 := { stood := { row := variantBackRow, standIns := [], harness := (true, "c9c74e49c5fba0d6dfaf5f2e8b30a4456284a9396b361d3fde3576ed4bc5fd80"), looks := true }, kinds := [], alts := [], laidByText := true, laidKinds := [.data, .data, .data, .sentinel, .sentinel, .widerDeep], laidTests := true, laidLooks := .later }
def VariantBackCardSaid : Prop := Claim7.holds Tryd.pinned (.plain (OpenSpec.ofChange variantBackSpec)) variantBackCard

/-- THE TIED CARD OF 'analemmalaw30.ExpandAbbrs'. -/
def expandAbbrsCard : Claim7 := { stood := { row := expandAbbrsRow, standIns := [], harness := (true, "c9c74e49c5fba0d6dfaf5f2e8b30a4456284a9396b361d3fde3576ed4bc5fd80"), looks := true }, kinds := [], alts := [], laidByText := true, laidKinds := [.data, .data, .data, .sentinel, .sentinel], laidTests := true, laidLooks := .later }
def ExpandAbbrsCardSaid : Prop := Claim7.holds Tryd.pinned (.plain (OpenSpec.ofChange expandAbbrsSpec)) expandAbbrsCard

/-- THE TIED CARD OF 'analemmalaw30.ExpandBack'. -/
def expandBackCard : Claim7 := { stood := { row := expandBackRow, standIns := [], harness := (true, "c9c74e49c5fba0d6dfaf5f2e8b30a4456284a9396b361d3fde3576ed4bc5fd80"), looks := true }, kinds := [], alts := [], laidByText := true, laidKinds := [.data, .data, .data, .sentinel, .sentinel], laidTests := true, laidLooks := .later }
def ExpandBackCardSaid : Prop := Claim7.holds Tryd.pinned (.plain (OpenSpec.ofChange expandBackSpec)) expandBackCard

/-- THE TIED CARD OF 'analemmalaw30.ExpandWrong'. -/
def expandWrongCard : Claim7 := { stood := { row := expandWrongRow, standIns := [], harness := (true, "c9c74e49c5fba0d6dfaf5f2e8b30a4456284a9396b361d3fde3576ed4bc5fd80"), looks := true }, kinds := [], alts := [], laidByText := true, laidKinds := [.data, .data, .data, .sentinel, .sentinel], laidTests := true, laidLooks := .later }
def ExpandWrongCardSaid : Prop := Claim7.holds Tryd.pinned (.plain (OpenSpec.ofChange expandWrongSpec)) expandWrongCard

/-- THE TIED CARD OF 'analemmalaw30.ExpandFirst'. -/
def expandFirstCard : Claim7 := { stood := { row := expandFirstRow, standIns := [], harness := (true, "c9c74e49c5fba0d6dfaf5f2e8b30a4456284a9396b361d3fde3576ed4bc5fd80"), looks := true }, kinds := [], alts := [], laidByText := true, laidKinds := [.data, .data, .data, .sentinel, .sentinel], laidTests := true, laidLooks := .later }
def ExpandFirstCardSaid : Prop := Claim7.holds Tryd.pinned (.plain (OpenSpec.ofChange expandFirstSpec)) expandFirstCard

/-- THE TIED CARD OF 'analemmalaw29.TurnFormats'. -/
def turnFormatsCard : Claim7 := { stood := { row := turnFormatsRow, standIns := [], harness := (true, "c9c74e49c5fba0d6dfaf5f2e8b30a4456284a9396b361d3fde3576ed4bc5fd80"), looks := true }, kinds := [], alts := [], laidByText := true, laidKinds := [.data, .data, .data, .sentinel, .sentinel], laidTests := true, laidLooks := .later }
def TurnFormatsCardSaid : Prop := Claim7.holds Tryd.pinned (.plain (OpenSpec.ofChange turnFormatsSpec)) turnFormatsCard

/-- THE SECOND FORM's CARD OF 'analemmalaw21.FormatStates'. -/
def formatStatesUptoCard : Claim7 := { stood := { row := formatStatesUptoRow, standIns := [], harness := (true, "c9c74e49c5fba0d6dfaf5f2e8b30a4456284a9396b361d3fde3576ed4bc5fd80"), looks := true }, kinds := [], alts := [], laidByText := true, laidKinds := [.data, .data, .data, .data, .sentinel, .sentinel, .pinned], laidTests := true, laidLooks := .later }
def FormatStatesUptoCardSaid : Prop := Claim7.holds Tryd.pinned (.plain (OpenSpec.upto formatStatesSpec)) formatStatesUptoCard

/-- THE SECOND FORM's CARD OF 'analemmalaw21.FormatNumbers'. -/
def formatNumbersUptoCard : Claim7 := { stood := { row := formatNumbersUptoRow, standIns := [], harness := (true, "c9c74e49c5fba0d6dfaf5f2e8b30a4456284a9396b361d3fde3576ed4bc5fd80"), looks := true }, kinds := [], alts := [], laidByText := true, laidKinds := [.data, .data, .data, .sentinel, .sentinel], laidTests := true, laidLooks := .later }
def FormatNumbersUptoCardSaid : Prop := Claim7.holds Tryd.pinned (.plain (OpenSpec.upto formatNumbersSpec)) formatNumbersUptoCard

/-- THE SECOND FORM's CARD OF 'analemmalaw21.FormatKinds'. -/
def formatKindsUptoCard : Claim7 := { stood := { row := formatKindsUptoRow, standIns := [], harness := (true, "c9c74e49c5fba0d6dfaf5f2e8b30a4456284a9396b361d3fde3576ed4bc5fd80"), looks := true }, kinds := [], alts := [], laidByText := true, laidKinds := [.data, .data, .data, .sentinel, .sentinel], laidTests := true, laidLooks := .later }
def FormatKindsUptoCardSaid : Prop := Claim7.holds Tryd.pinned (.plain (OpenSpec.upto formatKindsSpec)) formatKindsUptoCard

/-- THE SECOND FORM's CARD OF 'analemmalaw21.FormatRefuses'. -/
def formatRefusesUptoCard : Claim7 := { stood := { row := formatRefusesUptoRow, standIns := [], harness := (true, "c9c74e49c5fba0d6dfaf5f2e8b30a4456284a9396b361d3fde3576ed4bc5fd80"), looks := true }, kinds := [], alts := [], laidByText := true, laidKinds := [.data, .data, .data, .sentinel, .sentinel], laidTests := true, laidLooks := .later }
def FormatRefusesUptoCardSaid : Prop := Claim7.holds Tryd.pinned (.plain (OpenSpec.upto formatRefusesSpec)) formatRefusesUptoCard

/-- THE SECOND FORM's CARD OF 'analemmalaw24.VariantParts'. -/
def variantPartsUptoCard : Claim7 := { stood := { row := variantPartsUptoRow, standIns := [], harness := (true, "c9c74e49c5fba0d6dfaf5f2e8b30a4456284a9396b361d3fde3576ed4bc5fd80"), looks := true }, kinds := [], alts := [], laidByText := true, laidKinds := [.data, .data, .data, .sentinel, .sentinel, .widerDeep], laidTests := true, laidLooks := .later }
def VariantPartsUptoCardSaid : Prop := Claim7.holds Tryd.pinned (.plain (OpenSpec.upto variantPartsSpec)) variantPartsUptoCard

/-- THE SECOND FORM's CARD OF 'analemmalaw24.VariantBack'. -/
def variantBackUptoCard : Claim7 := { stood := { row := variantBackUptoRow, standIns := [], harness := (true, "c9c74e49c5fba0d6dfaf5f2e8b30a4456284a9396b361d3fde3576ed4bc5fd80"), looks := true }, kinds := [], alts := [], laidByText := true, laidKinds := [.data, .data, .data, .sentinel, .sentinel, .widerDeep], laidTests := true, laidLooks := .later }
def VariantBackUptoCardSaid : Prop := Claim7.holds Tryd.pinned (.plain (OpenSpec.upto variantBackSpec)) variantBackUptoCard

/-- THE SECOND FORM's CARD OF 'analemmalaw30.ExpandAbbrs'. -/
def expandAbbrsUptoCard : Claim7 := { stood := { row := expandAbbrsUptoRow, standIns := [], harness := (true, "c9c74e49c5fba0d6dfaf5f2e8b30a4456284a9396b361d3fde3576ed4bc5fd80"), looks := true }, kinds := [], alts := [], laidByText := true, laidKinds := [.data, .data, .data, .sentinel, .sentinel], laidTests := true, laidLooks := .later }
def ExpandAbbrsUptoCardSaid : Prop := Claim7.holds Tryd.pinned (.plain (OpenSpec.upto expandAbbrsSpec)) expandAbbrsUptoCard

/-- THE SECOND FORM's CARD OF 'analemmalaw30.ExpandBack'. -/
def expandBackUptoCard : Claim7 := { stood := { row := expandBackUptoRow, standIns := [], harness := (true, "c9c74e49c5fba0d6dfaf5f2e8b30a4456284a9396b361d3fde3576ed4bc5fd80"), looks := true }, kinds := [], alts := [], laidByText := true, laidKinds := [.data, .data, .data, .sentinel, .sentinel], laidTests := true, laidLooks := .later }
def ExpandBackUptoCardSaid : Prop := Claim7.holds Tryd.pinned (.plain (OpenSpec.upto expandBackSpec)) expandBackUptoCard

/-- THE SECOND FORM's CARD OF 'analemmalaw30.ExpandWrong'. -/
def expandWrongUptoCard : Claim7 := { stood := { row := expandWrongUptoRow, standIns := [], harness := (true, "c9c74e49c5fba0d6dfaf5f2e8b30a4456284a9396b361d3fde3576ed4bc5fd80"), looks := true }, kinds := [], alts := [], laidByText := true, laidKinds := [.data, .data, .data, .sentinel, .sentinel], laidTests := true, laidLooks := .later }
def ExpandWrongUptoCardSaid : Prop := Claim7.holds Tryd.pinned (.plain (OpenSpec.upto expandWrongSpec)) expandWrongUptoCard

/-- THE SECOND FORM's CARD OF 'analemmalaw30.ExpandFirst'. -/
def expandFirstUptoCard : Claim7 := { stood := { row := expandFirstUptoRow, standIns := [], harness := (true, "c9c74e49c5fba0d6dfaf5f2e8b30a4456284a9396b361d3fde3576ed4bc5fd80"), looks := true }, kinds := [], alts := [], laidByText := true, laidKinds := [.data, .data, .data, .sentinel, .sentinel], laidTests := true, laidLooks := .later }
def ExpandFirstUptoCardSaid : Prop := Claim7.holds Tryd.pinned (.plain (OpenSpec.upto expandFirstSpec)) expandFirstUptoCard

/-- THE SECOND FORM's CARD OF 'analemmalaw29.TurnFormats'. -/
def turnFormatsUptoCard : Claim7 := { stood := { row := turnFormatsUptoRow, standIns := [], harness := (true, "c9c74e49c5fba0d6dfaf5f2e8b30a4456284a9396b361d3fde3576ed4bc5fd80"), looks := true }, kinds := [], alts := [], laidByText := true, laidKinds := [.data, .data, .data, .sentinel, .sentinel], laidTests := true, laidLooks := .later }
def TurnFormatsUptoCardSaid : Prop := Claim7.holds Tryd.pinned (.plain (OpenSpec.upto turnFormatsSpec)) turnFormatsUptoCard
end Rows
end Go.Proofs.YtmhciidliicheaaDoor
