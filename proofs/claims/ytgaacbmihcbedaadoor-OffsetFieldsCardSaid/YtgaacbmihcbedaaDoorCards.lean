/-
  DERIVED. GIVEN WITH THE SEED: THE CARDS: each row of YtgaacbmihcbedaaDoorRows.lean that lists a variable, with what it lists TIED to the program's text (the seventh form; the later family's looks); each row that meets fmt, with fmt's text TOLD by the authors' own Lean function (tested against real Go, not proved from fmt's source: count such statements apart). THE CARD IS WHAT COUNTS. Prove the row's statement (the work); the ties are given (YtgaacbmihcbedaaDoorTie.lean); close each card by the builder's one call (the guide's Derived/Test/ToyasCard.lean, 'card_holds'). Laid BY PROGRAM, IN A SANDBOX (cutbox-door.mjs). By AI agents, Wed Nov 11 2026. No macro, syntax, notation, axiom, sorry.
-/
import Derived.Test.YtgaacbmihcbedaaDoorRows
import GoSem.ClaimSeven
namespace Go.Proofs.YtgaacbmihcbedaaDoor
namespace Rows

/-- THE TIED CARD OF 'analemmalaw04.OffsetParses'. -/
def offsetParsesCard : Claim7 := { stood := { row := offsetParsesRow, standIns := [], harness := (true, "ebbc90afe5395bbf0fcaf31e6684b4bc924a3f020af5cc5fb9997609856f0417"), looks := true }, kinds := [], alts := [], laidByText := true, laidKinds := [.data, .data, .data, .sentinel, .sentinel, .data], laidTests := true, laidLooks := .later }
def OffsetParsesCardSaid : Prop := Claim7.holds Tryd.pinned (.plain (OpenSpec.ofChange offsetParsesSpec)) offsetParsesCard

/-- THE TIED CARD OF 'analemmalaw04.OffsetPrints'. -/
def offsetPrintsCard : Claim7 := { stood := { row := offsetPrintsRow, standIns := [], harness := (true, "ebbc90afe5395bbf0fcaf31e6684b4bc924a3f020af5cc5fb9997609856f0417"), looks := true }, kinds := [], alts := [], laidByText := true, laidKinds := [.data, .data, .data, .sentinel, .sentinel, .data], laidTests := true, laidLooks := .later }
def OffsetPrintsCardSaid : Prop := Claim7.holds Tryd.pinned (.plain (OpenSpec.ofChange offsetPrintsSpec)) offsetPrintsCard

/-- THE TIED CARD OF 'analemmalaw04.OffsetBack'. -/
def offsetBackCard : Claim7 := { stood := { row := offsetBackRow, standIns := [], harness := (true, "ebbc90afe5395bbf0fcaf31e6684b4bc924a3f020af5cc5fb9997609856f0417"), looks := true }, kinds := [], alts := [], laidByText := true, laidKinds := [.data, .data, .data, .sentinel, .sentinel, .data], laidTests := true, laidLooks := .later }
def OffsetBackCardSaid : Prop := Claim7.holds Tryd.pinned (.plain (OpenSpec.ofChange offsetBackSpec)) offsetBackCard

/-- THE TIED CARD OF 'analemmalaw04.OffsetSpoilt'. -/
def offsetSpoiltCard : Claim7 := { stood := { row := offsetSpoiltRow, standIns := [], harness := (true, "ebbc90afe5395bbf0fcaf31e6684b4bc924a3f020af5cc5fb9997609856f0417"), looks := true }, kinds := [], alts := [], laidByText := true, laidKinds := [.data, .data, .data, .sentinel, .sentinel, .data], laidTests := true, laidLooks := .later }
def OffsetSpoiltCardSaid : Prop := Claim7.holds Tryd.pinned (.plain (OpenSpec.ofChange offsetSpoiltSpec)) offsetSpoiltCard

/-- THE TIED CARD OF 'analemmalaw04.OffsetRefuses'. -/
def offsetRefusesCard : Claim7 := { stood := { row := offsetRefusesRow, standIns := [], harness := (true, "ebbc90afe5395bbf0fcaf31e6684b4bc924a3f020af5cc5fb9997609856f0417"), looks := true }, kinds := [], alts := [], laidByText := true, laidKinds := [.data, .data, .data, .sentinel, .sentinel, .data], laidTests := true, laidLooks := .later }
def OffsetRefusesCardSaid : Prop := Claim7.holds Tryd.pinned (.plain (OpenSpec.ofChange offsetRefusesSpec)) offsetRefusesCard

/-- THE TIED CARD OF 'analemmalaw04.OffsetOrder'. -/
def offsetOrderCard : Claim7 := { stood := { row := offsetOrderRow, standIns := [], harness := (true, "ebbc90afe5395bbf0fcaf31e6684b4bc924a3f020af5cc5fb9997609856f0417"), looks := true }, kinds := [], alts := [], laidByText := true, laidKinds := [.data, .data, .data, .sentinel, .sentinel, .data], laidTests := true, laidLooks := .later }
def OffsetOrderCardSaid : Prop := Claim7.holds Tryd.pinned (.plain (OpenSpec.ofChange offsetOrderSpec)) offsetOrderCard

/-- THE TIED CARD OF 'analemmalaw04.OffsetFields'. -/
def offsetFieldsCard : Claim7 := { stood := { row := offsetFieldsRow, standIns := [], harness := (true, "ebbc90afe5395bbf0fcaf31e6684b4bc924a3f020af5cc5fb9997609856f0417"), looks := true }, kinds := [], alts := [], laidByText := true, laidKinds := [.data, .data, .data, .sentinel, .sentinel, .data], laidTests := true, laidLooks := .later }
def OffsetFieldsCardSaid : Prop := Claim7.holds Tryd.pinned (.plain (OpenSpec.ofChange offsetFieldsSpec)) offsetFieldsCard

/-- THE TIED CARD OF 'analemmalaw06.ClockStrings'. -/
def clockStringsCard : Claim7 := { stood := { row := clockStringsRow, standIns := [], harness := (true, "ebbc90afe5395bbf0fcaf31e6684b4bc924a3f020af5cc5fb9997609856f0417"), looks := true }, kinds := [], alts := [], laidByText := true, laidKinds := [.data, .data, .data, .sentinel, .sentinel, .data], laidTests := true, laidLooks := .later }
def ClockStringsCardSaid : Prop := Claim7.holds Tryd.pinned (.plain (OpenSpec.ofChange clockStringsSpec)) clockStringsCard

/-- THE TIED CARD OF 'analemmalaw06.ClockTimes'. -/
def clockTimesCard : Claim7 := { stood := { row := clockTimesRow, standIns := [], harness := (true, "ebbc90afe5395bbf0fcaf31e6684b4bc924a3f020af5cc5fb9997609856f0417"), looks := true }, kinds := [], alts := [], laidByText := true, laidKinds := [.data, .data, .data, .sentinel, .sentinel, .data], laidTests := true, laidLooks := .later }
def ClockTimesCardSaid : Prop := Claim7.holds Tryd.pinned (.plain (OpenSpec.ofChange clockTimesSpec)) clockTimesCard

/-- THE TIED CARD OF 'analemmalaw06.ClockBack'. -/
def clockBackCard : Claim7 := { stood := { row := clockBackRow, standIns := [], harness := (true, "ebbc90afe5395bbf0fcaf31e6684b4bc924a3f020af5cc5fb9997609856f0417"), looks := true }, kinds := [], alts := [], laidByText := true, laidKinds := [.data, .data, .data, .sentinel, .sentinel, .data], laidTests := true, laidLooks := .later }
def ClockBackCardSaid : Prop := Claim7.holds Tryd.pinned (.plain (OpenSpec.ofChange clockBackSpec)) clockBackCard

/-- THE TIED CARD OF 'analemmalaw06.ClockReads'. -/
def clockReadsCard : Claim7 := { stood := { row := clockReadsRow, standIns := [], harness := (true, "ebbc90afe5395bbf0fcaf31e6684b4bc924a3f020af5cc5fb9997609856f0417"), looks := true }, kinds := [], alts := [], laidByText := true, laidKinds := [.data, .data, .data, .sentinel, .sentinel, .data], laidTests := true, laidLooks := .later }
def ClockReadsCardSaid : Prop := Claim7.holds Tryd.pinned (.plain (OpenSpec.ofChange clockReadsSpec)) clockReadsCard

/-- THE TIED CARD OF 'analemmalaw06.ClockLetters'. -/
def clockLettersCard : Claim7 := { stood := { row := clockLettersRow, standIns := [], harness := (true, "ebbc90afe5395bbf0fcaf31e6684b4bc924a3f020af5cc5fb9997609856f0417"), looks := true }, kinds := [], alts := [], laidByText := true, laidKinds := [.data, .data, .data, .sentinel, .sentinel, .data], laidTests := true, laidLooks := .later }
def ClockLettersCardSaid : Prop := Claim7.holds Tryd.pinned (.plain (OpenSpec.ofChange clockLettersSpec)) clockLettersCard

/-- THE TIED CARD OF 'analemmalaw06.ClockRefuses'. -/
def clockRefusesCard : Claim7 := { stood := { row := clockRefusesRow, standIns := [], harness := (true, "ebbc90afe5395bbf0fcaf31e6684b4bc924a3f020af5cc5fb9997609856f0417"), looks := true }, kinds := [], alts := [], laidByText := true, laidKinds := [.data, .data, .data, .sentinel, .sentinel, .data], laidTests := true, laidLooks := .later }
def ClockRefusesCardSaid : Prop := Claim7.holds Tryd.pinned (.plain (OpenSpec.ofChange clockRefusesSpec)) clockRefusesCard

/-- THE SECOND FORM's CARD OF 'analemmalaw04.OffsetParses'. -/
def offsetParsesUptoCard : Claim7 := { stood := { row := offsetParsesUptoRow, standIns := [], harness := (true, "ebbc90afe5395bbf0fcaf31e6684b4bc924a3f020af5cc5fb9997609856f0417"), looks := true }, kinds := [], alts := [], laidByText := true, laidKinds := [.data, .data, .data, .sentinel, .sentinel, .data], laidTests := true, laidLooks := .later }
def OffsetParsesUptoCardSaid : Prop := Claim7.holds Tryd.pinned (.plain (OpenSpec.upto offsetParsesSpec)) offsetParsesUptoCard

/-- THE SECOND FORM's CARD OF 'analemmalaw04.OffsetPrints'. -/
def offsetPrintsUptoCard : Claim7 := { stood := { row := offsetPrintsUptoRow, standIns := [], harness := (true, "ebbc90afe5395bbf0fcaf31e6684b4bc924a3f020af5cc5fb9997609856f0417"), looks := true }, kinds := [], alts := [], laidByText := true, laidKinds := [.data, .data, .data, .sentinel, .sentinel, .data], laidTests := true, laidLooks := .later }
def OffsetPrintsUptoCardSaid : Prop := Claim7.holds Tryd.pinned (.plain (OpenSpec.upto offsetPrintsSpec)) offsetPrintsUptoCard

/-- THE SECOND FORM's CARD OF 'analemmalaw04.OffsetBack'. -/
def offsetBackUptoCard : Claim7 := { stood := { row := offsetBackUptoRow, standIns := [], harness := (true, "ebbc90afe5395bbf0fcaf31e6684b4bc924a3f020af5cc5fb9997609856f0417"), looks := true }, kinds := [], alts := [], laidByText := true, laidKinds := [.data, .data, .data, .sentinel, .sentinel, .data], laidTests := true, laidLooks := .later }
def OffsetBackUptoCardSaid : Prop := Claim7.holds Tryd.pinned (.plain (OpenSpec.upto offsetBackSpec)) offsetBackUptoCard

/-- THE SECOND FORM's CARD OF 'analemmalaw04.OffsetSpoilt'. -/
def offsetSpoiltUptoCard : Claim7 := { stood := { row := offsetSpoiltUptoRow, standIns := [], harness := (true, "ebbc90afe5395bbf0fcaf31e6684b4bc924a3f020af5cc5fb9997609856f0417"), looks := true }, kinds := [], alts := [], laidByText := true, laidKinds := [.data, .data, .data, .sentinel, .sentinel, .data], laidTests := true, laidLooks := .later }
def OffsetSpoiltUptoCardSaid : Prop := Claim7.holds Tryd.pinned (.plain (OpenSpec.upto offsetSpoiltSpec)) offsetSpoiltUptoCard

/-- THE SECOND FORM's CARD OF 'analemmalaw04.OffsetRefuses'. -/
def offsetRefusesUptoCard : Claim7 := { stood := { row := offsetRefusesUptoRow, standIns := [], harness := (true, "ebbc90afe5395bbf0fcaf31e6684b4bc924a3f020af5cc5fb9997609856f0417"), looks := true }, kinds := [], alts := [], laidByText := true, laidKinds := [.data, .data, .data, .sentinel, .sentinel, .data], laidTests := true, laidLooks := .later }
def OffsetRefusesUptoCardSaid : Prop := Claim7.holds Tryd.pinned (.plain (OpenSpec.upto offsetRefusesSpec)) offsetRefusesUptoCard

/-- THE SECOND FORM's CARD OF 'analemmalaw04.OffsetOrder'. -/
def offsetOrderUptoCard : Claim7 := { stood := { row := offsetOrderUptoRow, standIns := [], harness := (true, "ebbc90afe5395bbf0fcaf31e6684b4bc924a3f020af5cc5fb9997609856f0417"), looks := true }, kinds := [], alts := [], laidByText := true, laidKinds := [.data, .data, .data, .sentinel, .sentinel, .data], laidTests := true, laidLooks := .later }
def OffsetOrderUptoCardSaid : Prop := Claim7.holds Tryd.pinned (.plain (OpenSpec.upto offsetOrderSpec)) offsetOrderUptoCard

/-- THE SECOND FORM's CARD OF 'analemmalaw04.OffsetFields'. -/
def offsetFieldsUptoCard : Claim7 := { stood := { row := offsetFieldsUptoRow, standIns := [], harness := (true, "ebbc90afe5395bbf0fcaf31e6684b4bc924a3f020af5cc5fb9997609856f0417"), looks := true }, kinds := [], alts := [], laidByText := true, laidKinds := [.data, .data, .data, .sentinel, .sentinel, .data], laidTests := true, laidLooks := .later }
def OffsetFieldsUptoCardSaid : Prop := Claim7.holds Tryd.pinned (.plain (OpenSpec.upto offsetFieldsSpec)) offsetFieldsUptoCard

/-- THE SECOND FORM's CARD OF 'analemmalaw06.ClockStrings'. -/
def clockStringsUptoCard : Claim7 := { stood := { row := clockStringsUptoRow, standIns := [], harness := (true, "ebbc90afe5395bbf0fcaf31e6684b4bc924a3f020af5cc5fb9997609856f0417"), looks := true }, kinds := [], alts := [], laidByText := true, laidKinds := [.data, .data, .data, .sentinel, .sentinel, .data], laidTests := true, laidLooks := .later }
def ClockStringsUptoCardSaid : Prop := Claim7.holds Tryd.pinned (.plain (OpenSpec.upto clockStringsSpec)) clockStringsUptoCard

/-- THE SECOND FORM's CARD OF 'analemmalaw06.ClockTimes'. -/
def clockTimesUptoCard : Claim7 := { stood := { row := clockTimesUptoRow, standIns := [], harness := (true, "ebbc90afe5395bbf0fcaf31e6684b4bc924a3f020af5cc5fb9997609856f0417"), looks := true }, kinds := [], alts := [], laidByText := true, laidKinds := [.data, .data, .data, .sentinel, .sentinel, .data], laidTests := true, laidLooks := .later }
def ClockTimesUptoCardSaid : Prop := Claim7.holds Tryd.pinned (.plain (OpenSpec.upto clockTimesSpec)) clockTimesUptoCard

/-- THE SECOND FORM's CARD OF 'analemmalaw06.ClockBack'. -/
def clockBackUptoCard : Claim7 := { stood := { row := clockBackUptoRow, standIns := [], harness := (true, "ebbc90afe5395bbf0fcaf31e6684b4bc924a3f020af5cc5fb9997609856f0417"), looks := true }, kinds := [], alts := [], laidByText := true, laidKinds := [.data, .data, .data, .sentinel, .sentinel, .data], laidTests := true, laidLooks := .later }
def ClockBackUptoCardSaid : Prop := Claim7.holds Tryd.pinned (.plain (OpenSpec.upto clockBackSpec)) clockBackUptoCard

/-- THE SECOND FORM's CARD OF 'analemmalaw06.ClockReads'. -/
def clockReadsUptoCard : Claim7 := { stood := { row := clockReadsUptoRow, standIns := [], harness := (true, "ebbc90afe5395bbf0fcaf31e6684b4bc924a3f020af5cc5fb9997609856f0417"), looks := true }, kinds := [], alts := [], laidByText := true, laidKinds := [.data, .data, .data, .sentinel, .sentinel, .data], laidTests := true, laidLooks := .later }
def ClockReadsUptoCardSaid : Prop := Claim7.holds Tryd.pinned (.plain (OpenSpec.upto clockReadsSpec)) clockReadsUptoCard

/-- THE SECOND FORM's CARD OF 'analemmalaw06.ClockLetters'. -/
def clockLettersUptoCard : Claim7 := { stood := { row := clockLettersUptoRow, standIns := [], harness := (true, "ebbc90afe5395bbf0fcaf31e6684b4bc924a3f020af5cc5fb9997609856f0417"), looks := true }, kinds := [], alts := [], laidByText := true, laidKinds := [.data, .data, .data, .sentinel, .sentinel, .data], laidTests := true, laidLooks := .later }
def ClockLettersUptoCardSaid : Prop := Claim7.holds Tryd.pinned (.plain (OpenSpec.upto clockLettersSpec)) clockLettersUptoCard

/-- THE SECOND FORM's CARD OF 'analemmalaw06.ClockRefuses'. -/
def clockRefusesUptoCard : Claim7 := { stood := { row := clockRefusesUptoRow, standIns := [], harness := (true, "ebbc90afe5395bbf0fcaf31e6684b4bc924a3f020af5cc5fb9997609856f0417"), looks := true }, kinds := [], alts := [], laidByText := true, laidKinds := [.data, .data, .data, .sentinel, .sentinel, .data], laidTests := true, laidLooks := .later }
def ClockRefusesUptoCardSaid : Prop := Claim7.holds Tryd.pinned (.plain (OpenSpec.upto clockRefusesSpec)) clockRefusesUptoCard
end Rows
end Go.Proofs.YtgaacbmihcbedaaDoor
