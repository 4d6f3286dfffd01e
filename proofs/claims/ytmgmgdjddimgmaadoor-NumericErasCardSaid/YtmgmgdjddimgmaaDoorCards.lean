/-
  DERIVED. GIVEN WITH THE SEED: THE CARDS: each row of YtmgmgdjddimgmaaDoorRows.lean that lists a variable, with what it lists TIED to the program's text (the seventh form; the later family's looks); each row that meets fmt, with fmt's text TOLD by the authors' own Lean function (tested against real Go, not proved from fmt's source: count such statements apart). THE CARD IS WHAT COUNTS. Prove the row's statement (the work); the ties are given (YtmgmgdjddimgmaaDoorTie.lean); close each card by the builder's one call (the guide's Derived/Test/ToyasCard.lean, 'card_holds'). Laid BY PROGRAM, IN A SANDBOX (cutbox-door.mjs). By AI agents, Wed Nov 11 2026. No macro, syntax, notation, axiom, sorry.
-/
import Derived.Test.YtmgmgdjddimgmaaDoorRows
import GoSem.ClaimSeven
namespace Go.Proofs.YtmgmgdjddimgmaaDoor
namespace Rows

/-- THE TIED CARD OF 'analemmalaw20.NumericTexts'. -/
def numericTextsCard : Claim7 := { stood := { row := numericTextsRow, standIns := [], harness := (true, "a5967cc9c6dff6c2ad87a7f07154120a38b20a7dfd525b8eba7094d47c86e4bd"), looks := true }, kinds := [], alts := [], laidByText := true, laidKinds := [.data, .data, .data, .sentinel, .sentinel], laidTests := true, laidLooks := .later }
def NumericTextsCardSaid : Prop := Claim7.holds Tryd.pinned (.plain (OpenSpec.ofChange numericTextsSpec)) numericTextsCard

/-- THE TIED CARD OF 'analemmalaw20.NumericExpands'. -/
def numericExpandsCard : Claim7 := { stood := { row := numericExpandsRow, standIns := [], harness := (true, "a5967cc9c6dff6c2ad87a7f07154120a38b20a7dfd525b8eba7094d47c86e4bd"), looks := true }, kinds := [], alts := [], laidByText := true, laidKinds := [.data, .data, .data, .sentinel, .sentinel], laidTests := true, laidLooks := .later }
def NumericExpandsCardSaid : Prop := Claim7.holds Tryd.pinned (.plain (OpenSpec.ofChange numericExpandsSpec)) numericExpandsCard

/-- THE TIED CARD OF 'analemmalaw20.NumericBack'. -/
def numericBackCard : Claim7 := { stood := { row := numericBackRow, standIns := [], harness := (true, "a5967cc9c6dff6c2ad87a7f07154120a38b20a7dfd525b8eba7094d47c86e4bd"), looks := true }, kinds := [], alts := [], laidByText := true, laidKinds := [.data, .data, .data, .sentinel, .sentinel], laidTests := true, laidLooks := .later }
def NumericBackCardSaid : Prop := Claim7.holds Tryd.pinned (.plain (OpenSpec.ofChange numericBackSpec)) numericBackCard

/-- THE TIED CARD OF 'analemmalaw20.NumericDigits'. -/
def numericDigitsCard : Claim7 := { stood := { row := numericDigitsRow, standIns := [], harness := (true, "a5967cc9c6dff6c2ad87a7f07154120a38b20a7dfd525b8eba7094d47c86e4bd"), looks := true }, kinds := [], alts := [], laidByText := true, laidKinds := [.data, .data, .data, .sentinel, .sentinel], laidTests := true, laidLooks := .later }
def NumericDigitsCardSaid : Prop := Claim7.holds Tryd.pinned (.plain (OpenSpec.ofChange numericDigitsSpec)) numericDigitsCard

/-- THE TIED CARD OF 'analemmalaw20.NumericEras'. -/
def numericErasCard : Claim7 := { stood := { row := numericErasRow, standIns := [], harness := (true, "a5967cc9c6dff6c2ad87a7f07154120a38b20a7dfd525b8eba7094d47c86e4bd"), looks := true }, kinds := [], alts := [], laidByText := true, laidKinds := [.data, .data, .data, .sentinel, .sentinel], laidTests := true, laidLooks := .later }
def NumericErasCardSaid : Prop := Claim7.holds Tryd.pinned (.plain (OpenSpec.ofChange numericErasSpec)) numericErasCard

/-- THE TIED CARD OF 'analemmalaw20.NumericRefuses'. -/
def numericRefusesCard : Claim7 := { stood := { row := numericRefusesRow, standIns := [], harness := (true, "a5967cc9c6dff6c2ad87a7f07154120a38b20a7dfd525b8eba7094d47c86e4bd"), looks := true }, kinds := [], alts := [], laidByText := true, laidKinds := [.data, .data, .data, .sentinel, .sentinel], laidTests := true, laidLooks := .later }
def NumericRefusesCardSaid : Prop := Claim7.holds Tryd.pinned (.plain (OpenSpec.ofChange numericRefusesSpec)) numericRefusesCard

/-- THE TIED CARD OF 'analemmalaw20.NumericTurned'. -/
def numericTurnedCard : Claim7 := { stood := { row := numericTurnedRow, standIns := [], harness := (true, "a5967cc9c6dff6c2ad87a7f07154120a38b20a7dfd525b8eba7094d47c86e4bd"), looks := true }, kinds := [], alts := [], laidByText := true, laidKinds := [.data, .data, .data, .sentinel, .sentinel], laidTests := true, laidLooks := .later }
def NumericTurnedCardSaid : Prop := Claim7.holds Tryd.pinned (.plain (OpenSpec.ofChange numericTurnedSpec)) numericTurnedCard

/-- THE SECOND FORM's CARD OF 'analemmalaw20.NumericTexts'. -/
def numericTextsUptoCard : Claim7 := { stood := { row := numericTextsUptoRow, standIns := [], harness := (true, "a5967cc9c6dff6c2ad87a7f07154120a38b20a7dfd525b8eba7094d47c86e4bd"), looks := true }, kinds := [], alts := [], laidByText := true, laidKinds := [.data, .data, .data, .sentinel, .sentinel], laidTests := true, laidLooks := .later }
def NumericTextsUptoCardSaid : Prop := Claim7.holds Tryd.pinned (.plain (OpenSpec.upto numericTextsSpec)) numericTextsUptoCard

/-- THE SECOND FORM's CARD OF 'analemmalaw20.NumericExpands'. -/
def numericExpandsUptoCard : Claim7 := { stood := { row := numericExpandsUptoRow, standIns := [], harness := (true, "a5967cc9c6dff6c2ad87a7f07154120a38b20a7dfd525b8eba7094d47c86e4bd"), looks := true }, kinds := [], alts := [], laidByText := true, laidKinds := [.data, .data, .data, .sentinel, .sentinel], laidTests := true, laidLooks := .later }
def NumericExpandsUptoCardSaid : Prop := Claim7.holds Tryd.pinned (.plain (OpenSpec.upto numericExpandsSpec)) numericExpandsUptoCard

/-- THE SECOND FORM's CARD OF 'analemmalaw20.NumericBack'. -/
def numericBackUptoCard : Claim7 := { stood := { row := numericBackUptoRow, standIns := [], harness := (true, "a5967cc9c6dff6c2ad87a7f07154120a38b20a7dfd525b8eba7094d47c86e4bd"), looks := true }, kinds := [], alts := [], laidByText := true, laidKinds := [.data, .data, .data, .sentinel, .sentinel], laidTests := true, laidLooks := .later }
def NumericBackUptoCardSaid : Prop := Claim7.holds Tryd.pinned (.plain (OpenSpec.upto numericBackSpec)) numericBackUptoCard

/-- THE SECOND FORM's CARD OF 'analemmalaw20.NumericDigits'. -/
def numericDigitsUptoCard : Claim7 := { stood := { row := numericDigitsUptoRow, standIns := [], harness := (true, "a5967cc9c6dff6c2ad87a7f07154120a38b20a7dfd525b8eba7094d47c86e4bd"), looks := true }, kinds := [], alts := [], laidByText := true, laidKinds := [.data, .data, .data, .sentinel, .sentinel], laidTests := true, laidLooks := .later }
def NumericDigitsUptoCardSaid : Prop := Claim7.holds Tryd.pinned (.plain (OpenSpec.upto numericDigitsSpec)) numericDigitsUptoCard

/-- THE SECOND FORM's CARD OF 'analemmalaw20.NumericEras'. -/
def numericErasUptoCard : Claim7 := { stood := { row := numericErasUptoRow, standIns := [], harness := (true, "a5967cc9c6dff6c2ad87a7f07154120a38b20a7dfd525b8eba7094d47c86e4bd"), looks := true }, kinds := [], alts := [], laidByText := true, laidKinds := [.data, .data, .data, .sentinel, .sentinel], laidTests := true, laidLooks := .later }
def NumericErasUptoCardSaid : Prop := Claim7.holds Tryd.pinned (.plain (OpenSpec.upto numericErasSpec)) numericErasUptoCard

/-- THE SECOND FORM's CARD OF 'analemmalaw20.NumericRefuses'. -/
def numericRefusesUptoCard : Claim7 := { stood := { row := numericRefusesUptoRow, standIns := [], harness := (true, "a5967cc9c6dff6c2ad87a7f07154120a38b20a7dfd525b8eba7094d47c86e4bd"), looks := true }, kinds := [], alts := [], laidByText := true, laidKinds := [.data, .data, .data, .sentinel, .sentinel], laidTests := true, laidLooks := .later }
def NumericRefusesUptoCardSaid : Prop := Claim7.holds Tryd.pinned (.plain (OpenSpec.upto numericRefusesSpec)) numericRefusesUptoCard

/-- THE SECOND FORM's CARD OF 'analemmalaw20.NumericTurned'. -/
def numericTurnedUptoCard : Claim7 := { stood := { row := numericTurnedUptoRow, standIns := [], harness := (true, "a5967cc9c6dff6c2ad87a7f07154120a38b20a7dfd525b8eba7094d47c86e4bd"), looks := true }, kinds := [], alts := [], laidByText := true, laidKinds := [.data, .data, .data, .sentinel, .sentinel], laidTests := true, laidLooks := .later }
def NumericTurnedUptoCardSaid : Prop := Claim7.holds Tryd.pinned (.plain (OpenSpec.upto numericTurnedSpec)) numericTurnedUptoCard
end Rows
end Go.Proofs.YtmgmgdjddimgmaaDoor
