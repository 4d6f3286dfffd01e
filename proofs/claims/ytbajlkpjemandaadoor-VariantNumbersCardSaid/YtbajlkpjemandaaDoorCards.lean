/-
  DERIVED. GIVEN WITH THE SEED: THE CARDS: each row of YtbajlkpjemandaaDoorRows.lean that lists a variable, with what it lists TIED to the program's text (the seventh form; the later family's looks); each row that meets fmt, with fmt's text TOLD by the authors' own Lean function (tested against real Go, not proved from fmt's source: count such statements apart). THE CARD IS WHAT COUNTS. Prove the row's statement (the work); the ties are given (YtbajlkpjemandaaDoorTie.lean); close each card by the builder's one call (the guide's Derived/Test/ToyasCard.lean, 'card_holds'). Laid BY PROGRAM, IN A SANDBOX (cutbox-door.mjs). By AI agents, Wed Nov 11 2026. No macro, syntax, notation, axiom, sorry.
-/
import Derived.Test.YtbajlkpjemandaaDoorRows
import GoSem.ClaimSeven
namespace Go.Proofs.YtbajlkpjemandaaDoor
namespace Rows

/-- THE TIED CARD OF 'analemmalaw21.FormatStates'. -/
def formatStatesCard : Claim7 := { stood := { row := formatStatesRow, standIns := [], harness := (true, "cdaa81699bf20631f5578cbcb96400f0cf05b0add6abab12ff2a3e4f956c8f1e"), looks := true }, kinds := [], alts := [], laidByText := true, laidKinds := [.data, .data, .data, .data, .sentinel, .sentinel, .pinned], laidTests := true, laidLooks := .later }
def FormatStatesCardSaid : Prop := Claim7.holds Tryd.pinned (.plain (OpenSpec.ofChange formatStatesSpec)) formatStatesCard

/-- THE TIED CARD OF 'analemmalaw21.FormatAbbrs'. -/
def formatAbbrsCard : Claim7 := { stood := { row := formatAbbrsRow, standIns := [], harness := (true, "cdaa81699bf20631f5578cbcb96400f0cf05b0add6abab12ff2a3e4f956c8f1e"), looks := true }, kinds := [], alts := [], laidByText := true, laidKinds := [.data, .data, .data, .sentinel, .sentinel], laidTests := true, laidLooks := .later }
def FormatAbbrsCardSaid : Prop := Claim7.holds Tryd.pinned (.plain (OpenSpec.ofChange formatAbbrsSpec)) formatAbbrsCard

/-- THE TIED CARD OF 'analemmalaw21.FormatNumbers'. -/
def formatNumbersCard : Claim7 := { stood := { row := formatNumbersRow, standIns := [], harness := (true, "cdaa81699bf20631f5578cbcb96400f0cf05b0add6abab12ff2a3e4f956c8f1e"), looks := true }, kinds := [], alts := [], laidByText := true, laidKinds := [.data, .data, .data, .sentinel, .sentinel], laidTests := true, laidLooks := .later }
def FormatNumbersCardSaid : Prop := Claim7.holds Tryd.pinned (.plain (OpenSpec.ofChange formatNumbersSpec)) formatNumbersCard

/-- THE TIED CARD OF 'analemmalaw21.FormatKinds'. -/
def formatKindsCard : Claim7 := { stood := { row := formatKindsRow, standIns := [], harness := (true, "cdaa81699bf20631f5578cbcb96400f0cf05b0add6abab12ff2a3e4f956c8f1e"), looks := true }, kinds := [], alts := [], laidByText := true, laidKinds := [.data, .data, .data, .sentinel, .sentinel], laidTests := true, laidLooks := .later }
def FormatKindsCardSaid : Prop := Claim7.holds Tryd.pinned (.plain (OpenSpec.ofChange formatKindsSpec)) formatKindsCard

/-- THE TIED CARD OF 'analemmalaw21.FormatRefuses'. -/
def formatRefusesCard : Claim7 := { stood := { row := formatRefusesRow, standIns := [], harness := (true, "cdaa81699bf20631f5578cbcb96400f0cf05b0add6abab12ff2a3e4f956c8f1e"), looks := true }, kinds := [], alts := [], laidByText := true, laidKinds := [.data, .data, .data, .sentinel, .sentinel], laidTests := true, laidLooks := .later }
def FormatRefusesCardSaid : Prop := Claim7.holds Tryd.pinned (.plain (OpenSpec.ofChange formatRefusesSpec)) formatRefusesCard

/-- THE TIED CARD OF 'analemmalaw21.FormatChecks'. -/
def formatChecksCard : Claim7 := { stood := { row := formatChecksRow, standIns := [], harness := (true, "cdaa81699bf20631f5578cbcb96400f0cf05b0add6abab12ff2a3e4f956c8f1e"), looks := true }, kinds := [], alts := [], laidByText := true, laidKinds := [.data, .data, .data, .sentinel, .sentinel], laidTests := true, laidLooks := .later }
def FormatChecksCardSaid : Prop := Claim7.holds Tryd.pinned (.plain (OpenSpec.ofChange formatChecksSpec)) formatChecksCard

/-- THE TIED CARD OF 'analemmalaw24.VariantChecks'. -/
def variantChecksCard : Claim7 := { stood := { row := variantChecksRow, standIns := [], harness := (true, "cdaa81699bf20631f5578cbcb96400f0cf05b0add6abab12ff2a3e4f956c8f1e"), looks := true }, kinds := [], alts := [], laidByText := true, laidKinds := [.data, .data, .data, .sentinel, .sentinel, .widerDeep], laidTests := true, laidLooks := .later }
def VariantChecksCardSaid : Prop := Claim7.holds Tryd.pinned (.plain (OpenSpec.ofChange variantChecksSpec)) variantChecksCard

/-- THE TIED CARD OF 'analemmalaw24.VariantWords'. -/
def variantWordsCard : Claim7 := { stood := { row := variantWordsRow, standIns := [], harness := (true, "cdaa81699bf20631f5578cbcb96400f0cf05b0add6abab12ff2a3e4f956c8f1e"), looks := true }, kinds := [], alts := [], laidByText := true, laidKinds := [.data, .data, .data, .sentinel, .sentinel, .widerDeep], laidTests := true, laidLooks := .later }
def VariantWordsCardSaid : Prop := Claim7.holds Tryd.pinned (.plain (OpenSpec.ofChange variantWordsSpec)) variantWordsCard

/-- THE TIED CARD OF 'analemmalaw24.VariantParts'. -/
def variantPartsCard : Claim7 := { stood := { row := variantPartsRow, standIns := [], harness := (true, "cdaa81699bf20631f5578cbcb96400f0cf05b0add6abab12ff2a3e4f956c8f1e"), looks := true }, kinds := [], alts := [], laidByText := true, laidKinds := [.data, .data, .data, .sentinel, .sentinel, .widerDeep], laidTests := true, laidLooks := .later }
def VariantPartsCardSaid : Prop := Claim7.holds Tryd.pinned (.plain (OpenSpec.ofChange variantPartsSpec)) variantPartsCard

/-- THE TIED CARD OF 'analemmalaw24.VariantMore'. -/
def variantMoreCard : Claim7 := { stood := { row := variantMoreRow, standIns := [], harness := (true, "cdaa81699bf20631f5578cbcb96400f0cf05b0add6abab12ff2a3e4f956c8f1e"), looks := true }, kinds := [], alts := [], laidByText := true, laidKinds := [.data, .data, .data, .sentinel, .sentinel, .widerDeep], laidTests := true, laidLooks := .later }
def VariantMoreCardSaid : Prop := Claim7.holds Tryd.pinned (.plain (OpenSpec.ofChange variantMoreSpec)) variantMoreCard

/-- THE TIED CARD OF 'analemmalaw24.VariantNumbers'. -/
def variantNumbersCard : Claim7 := { stood := { row := variantNumbersRow, standIns := [], harness := (true, "cdaa81699bf20631f5578cbcb96400f0cf05b0add6abab12ff2a3e4f956c8f1e"), looks := true }, kinds := [], alts := [], laidByText := true, laidKinds := [.data, .data, .data, .sentinel, .sentinel, .widerDeep], laidTests := true, laidLooks := .later }
def VariantNumbersCardSaid : Prop := Claim7.holds Tryd.pinned (.plain (OpenSpec.ofChange variantNumbersSpec)) variantNumbersCard

/-- THE TIED CARD OF 'analemmalaw24.VariantBack'. -/
def variantBackCard : Claim7 := { stood := { row := variantBackRow, standIns := [], harness := (true, "cdaa81699bf20631f5578cbcb96400f0cf05b0add6abab12ff2a3e4f956c8f1e"), looks := true }, kinds := [], alts := [], laidByText := true, laidKinds := [.data, .data, .data, .sentinel, .sentinel, .widerDeep], laidTests := true, laidLooks := .later }
def VariantBackCardSaid : Prop := Claim7.holds Tryd.pinned (.plain (OpenSpec.ofChange variantBackSpec)) variantBackCard

/-- THE SECOND FORM's CARD OF 'analemmalaw21.FormatStates'. -/
def formatStatesUptoCard : Claim7 := { stood := { row := formatStatesUptoRow, standIns := [], harness := (true, "cdaa81699bf20631f5578cbcb96400f0cf05b0add6abab12ff2a3e4f956c8f1e"), looks := true }, kinds := [], alts := [], laidByText := true, laidKinds := [.data, .data, .data, .data, .sentinel, .sentinel, .pinned], laidTests := true, laidLooks := .later }
def FormatStatesUptoCardSaid : Prop := Claim7.holds Tryd.pinned (.plain (OpenSpec.upto formatStatesSpec)) formatStatesUptoCard

/-- THE SECOND FORM's CARD OF 'analemmalaw21.FormatAbbrs'. -/
def formatAbbrsUptoCard : Claim7 := { stood := { row := formatAbbrsUptoRow, standIns := [], harness := (true, "cdaa81699bf20631f5578cbcb96400f0cf05b0add6abab12ff2a3e4f956c8f1e"), looks := true }, kinds := [], alts := [], laidByText := true, laidKinds := [.data, .data, .data, .sentinel, .sentinel], laidTests := true, laidLooks := .later }
def FormatAbbrsUptoCardSaid : Prop := Claim7.holds Tryd.pinned (.plain (OpenSpec.upto formatAbbrsSpec)) formatAbbrsUptoCard

/-- THE SECOND FORM's CARD OF 'analemmalaw21.FormatNumbers'. -/
def formatNumbersUptoCard : Claim7 := { stood := { row := formatNumbersUptoRow, standIns := [], harness := (true, "cdaa81699bf20631f5578cbcb96400f0cf05b0add6abab12ff2a3e4f956c8f1e"), looks := true }, kinds := [], alts := [], laidByText := true, laidKinds := [.data, .data, .data, .sentinel, .sentinel], laidTests := true, laidLooks := .later }
def FormatNumbersUptoCardSaid : Prop := Claim7.holds Tryd.pinned (.plain (OpenSpec.upto formatNumbersSpec)) formatNumbersUptoCard

/-- THE SECOND FORM's CARD OF 'analemmalaw21.FormatKinds'. -/
def formatKindsUptoCard : Claim7 := { stood := { row := formatKindsUptoRow, standIns := [], harness := (true, "cdaa81699bf20631f5578cbcb96400f0cf05b0add6abab12ff2a3e4f956c8f1e"), looks := true }, kinds := [], alts := [], laidByText := true, laidKinds := [.data, .data, .data, .sentinel, .sentinel], laidTests := true, laidLooks := .later }
def FormatKindsUptoCardSaid : Prop := Claim7.holds Tryd.pinned (.plain (OpenSpec.upto formatKindsSpec)) formatKindsUptoCard

/-- THE SECOND FORM's CARD OF 'analemmalaw21.FormatRefuses'. -/
def formatRefusesUptoCard : Claim7 := { stood := { row := formatRefusesUptoRow, standIns := [], harness := (true, "cdaa81699bf20631f5578cbcb96400f0cf05b0add6abab12ff2a3e4f956c8f1e"), looks := true }, kinds := [], alts := [], laidByText := true, laidKinds := [.data, .data, .data, .sentinel, .sentinel], laidTests := true, laidLooks := .later }
def FormatRefusesUptoCardSaid : Prop := Claim7.holds Tryd.pinned (.plain (OpenSpec.upto formatRefusesSpec)) formatRefusesUptoCard

/-- THE SECOND FORM's CARD OF 'analemmalaw21.FormatChecks'. -/
def formatChecksUptoCard : Claim7 := { stood := { row := formatChecksUptoRow, standIns := [], harness := (true, "cdaa81699bf20631f5578cbcb96400f0cf05b0add6abab12ff2a3e4f956c8f1e"), looks := true }, kinds := [], alts := [], laidByText := true, laidKinds := [.data, .data, .data, .sentinel, .sentinel], laidTests := true, laidLooks := .later }
def FormatChecksUptoCardSaid : Prop := Claim7.holds Tryd.pinned (.plain (OpenSpec.upto formatChecksSpec)) formatChecksUptoCard

/-- THE SECOND FORM's CARD OF 'analemmalaw24.VariantChecks'. -/
def variantChecksUptoCard : Claim7 := { stood := { row := variantChecksUptoRow, standIns := [], harness := (true, "cdaa81699bf20631f5578cbcb96400f0cf05b0add6abab12ff2a3e4f956c8f1e"), looks := true }, kinds := [], alts := [], laidByText := true, laidKinds := [.data, .data, .data, .sentinel, .sentinel, .widerDeep], laidTests := true, laidLooks := .later }
def VariantChecksUptoCardSaid : Prop := Claim7.holds Tryd.pinned (.plain (OpenSpec.upto variantChecksSpec)) variantChecksUptoCard

/-- THE SECOND FORM's CARD OF 'analemmalaw24.VariantWords'. -/
def variantWordsUptoCard : Claim7 := { stood := { row := variantWordsUptoRow, standIns := [], harness := (true, "cdaa81699bf20631f5578cbcb96400f0cf05b0add6abab12ff2a3e4f956c8f1e"), looks := true }, kinds := [], alts := [], laidByText := true, laidKinds := [.data, .data, .data, .sentinel, .sentinel, .widerDeep], laidTests := true, laidLooks := .later }
def VariantWordsUptoCardSaid : Prop := Claim7.holds Tryd.pinned (.plain (OpenSpec.upto variantWordsSpec)) variantWordsUptoCard

/-- THE SECOND FORM's CARD OF 'analemmalaw24.VariantParts'. -/
def variantPartsUptoCard : Claim7 := { stood := { row := variantPartsUptoRow, standIns := [], harness := (true, "cdaa81699bf20631f5578cbcb96400f0cf05b0add6abab12ff2a3e4f956c8f1e"), looks := true }, kinds := [], alts := [], laidByText := true, laidKinds := [.data, .data, .data, .sentinel, .sentinel, .widerDeep], laidTests := true, laidLooks := .later }
def VariantPartsUptoCardSaid : Prop := Claim7.holds Tryd.pinned (.plain (OpenSpec.upto variantPartsSpec)) variantPartsUptoCard

/-- THE SECOND FORM's CARD OF 'analemmalaw24.VariantMore'. -/
def variantMoreUptoCard : Claim7 := { stood := { row := variantMoreUptoRow, standIns := [], harness := (true, "cdaa81699bf20631f5578cbcb96400f0cf05b0add6abab12ff2a3e4f956c8f1e"), looks := true }, kinds := [], alts := [], laidByText := true, laidKinds := [.data, .data, .data, .sentinel, .sentinel, .widerDeep], laidTests := true, laidLooks := .later }
def VariantMoreUptoCardSaid : Prop := Claim7.holds Tryd.pinned (.plain (OpenSpec.upto variantMoreSpec)) variantMoreUptoCard

/-- THE SECOND FORM's CARD OF 'analemmalaw24.VariantNumbers'. -/
def variantNumbersUptoCard : Claim7 := { stood := { row := variantNumbersUptoRow, standIns := [], harness := (true, "cdaa81699bf20631f5578cbcb96400f0cf05b0add6abab12ff2a3e4f956c8f1e"), looks := true }, kinds := [], alts := [], laidByText := true, laidKinds := [.data, .data, .data, .sentinel, .sentinel, .widerDeep], laidTests := true, laidLooks := .later }
def VariantNumbersUptoCardSaid : Prop := Claim7.holds Tryd.pinned (.plain (OpenSpec.upto variantNumbersSpec)) variantNumbersUptoCard

/-- THE SECOND FORM's CARD OF 'analemmalaw24.VariantBack'. -/
def variantBackUptoCard : Claim7 := { stood := { row := variantBackUptoRow, standIns := [], harness := (true, "cdaa81699bf20631f5578cbcb96400f0cf05b0add6abab12ff2a3e4f956c8f1e"), looks := true }, kinds := [], alts := [], laidByText := true, laidKinds := [.data, .data, .data, .sentinel, .sentinel, .widerDeep], laidTests := true, laidLooks := .later }
def VariantBackUptoCardSaid : Prop := Claim7.holds Tryd.pinned (.plain (OpenSpec.upto variantBackSpec)) variantBackUptoCard
end Rows
end Go.Proofs.YtbajlkpjemandaaDoor
