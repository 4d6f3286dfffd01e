/-
  DERIVED. GIVEN WITH THE SEED: THE CARDS: each row of YtggdfgdnpicepaaDoorRows.lean that lists a variable, with what it lists TIED to the program's text (the seventh form; the later family's looks); each row that meets fmt, with fmt's text TOLD by the authors' own Lean function (tested against real Go, not proved from fmt's source: count such statements apart). THE CARD IS WHAT COUNTS. Prove the row's statement (the work); the ties are given (YtggdfgdnpicepaaDoorTie.lean); close each card by the builder's one call (the guide's Derived/Test/ToyasCard.lean, 'card_holds'). Laid BY PROGRAM, IN A SANDBOX (cutbox-door.mjs). By AI agents, Wed Nov 11 2026. No macro, syntax, notation, axiom, sorry.
-/
import Derived.Test.YtggdfgdnpicepaaDoorRows
import GoSem.ClaimSeven
namespace Go.Proofs.YtggdfgdnpicepaaDoor
namespace Rows

/-- THE TIED CARD OF 'analemmalaw32.ReportCompares'. -/
def reportComparesCard : Claim7 := { stood := { row := reportComparesRow, standIns := [], harness := (true, "7816c95ae5c81f299e87386a0cfd3b10940559196ac4b83fdb3f1870b08e984d"), looks := false }, kinds := [], alts := [], laidByText := true, laidKinds := [.data, .data, .data, .data], laidTests := true, laidLooks := .later }
def ReportComparesCardSaid : Prop := Claim7.holds Tryd.pinned (.plain (OpenSpec.ofChange reportComparesSpec)) reportComparesCard

/-- THE TIED CARD OF 'analemmalaw32.ReportTexts'. -/
def reportTextsCard : Claim7 := { stood := { row := reportTextsRow, standIns := [], harness := (true, "7816c95ae5c81f299e87386a0cfd3b10940559196ac4b83fdb3f1870b08e984d"), looks := false }, kinds := [], alts := [], laidByText := true, laidKinds := [.data, .data, .data, .data], laidTests := true, laidLooks := .later }
def ReportTextsCardSaid : Prop := Claim7.holds Tryd.pinned (.plain (OpenSpec.ofChange reportTextsSpec)) reportTextsCard

/-- THE TIED CARD OF 'analemmalaw32.ReportAgain'. -/
def reportAgainCard : Claim7 := { stood := { row := reportAgainRow, standIns := [], harness := (true, "7816c95ae5c81f299e87386a0cfd3b10940559196ac4b83fdb3f1870b08e984d"), looks := false }, kinds := [], alts := [], laidByText := true, laidKinds := [.data, .data, .data, .data], laidTests := true, laidLooks := .later }
def ReportAgainCardSaid : Prop := Claim7.holds Tryd.pinned (.plain (OpenSpec.ofChange reportAgainSpec)) reportAgainCard

/-- THE TIED CARD OF 'analemmalaw32.ReportShapes'. -/
def reportShapesCard : Claim7 := { stood := { row := reportShapesRow, standIns := [], harness := (true, "7816c95ae5c81f299e87386a0cfd3b10940559196ac4b83fdb3f1870b08e984d"), looks := false }, kinds := [], alts := [], laidByText := true, laidKinds := [.data, .data, .data, .data], laidTests := true, laidLooks := .later }
def ReportShapesCardSaid : Prop := Claim7.holds Tryd.pinned (.plain (OpenSpec.ofChange reportShapesSpec)) reportShapesCard

/-- THE TIED CARD OF 'analemmalaw32.ReportLines'. -/
def reportLinesCard : Claim7 := { stood := { row := reportLinesRow, standIns := [], harness := (true, "7816c95ae5c81f299e87386a0cfd3b10940559196ac4b83fdb3f1870b08e984d"), looks := false }, kinds := [], alts := [], laidByText := true, laidKinds := [.data, .data, .data, .data], laidTests := true, laidLooks := .later }
def ReportLinesCardSaid : Prop := Claim7.holds Tryd.pinned (.plain (OpenSpec.ofChange reportLinesSpec)) reportLinesCard

/-- THE TIED CARD OF 'analemmalaw08.WordFinds'. -/
def wordFindsCard : Claim7 := { stood := { row := wordFindsRow, standIns := [], harness := (true, "7816c95ae5c81f299e87386a0cfd3b10940559196ac4b83fdb3f1870b08e984d"), looks := false }, kinds := [], alts := [], laidByText := true, laidKinds := [.data, .widerDeep, .widerDeep, .widerDeep, .widerDeep, .pinned, .pinned], laidTests := true, laidLooks := .later }
def WordFindsCardSaid : Prop := Claim7.holds Tryd.pinned (.plain (OpenSpec.ofChange wordFindsSpec)) wordFindsCard

/-- THE TIED CARD OF 'analemmalaw08.WordTexts'. -/
def wordTextsCard : Claim7 := { stood := { row := wordTextsRow, standIns := [], harness := (true, "7816c95ae5c81f299e87386a0cfd3b10940559196ac4b83fdb3f1870b08e984d"), looks := false }, kinds := [], alts := [], laidByText := true, laidKinds := [.data, .widerDeep, .widerDeep, .widerDeep, .widerDeep, .pinned, .pinned], laidTests := true, laidLooks := .later }
def WordTextsCardSaid : Prop := Claim7.holds Tryd.pinned (.plain (OpenSpec.ofChange wordTextsSpec)) wordTextsCard

/-- THE TIED CARD OF 'analemmalaw08.WordBack'. -/
def wordBackCard : Claim7 := { stood := { row := wordBackRow, standIns := [], harness := (true, "7816c95ae5c81f299e87386a0cfd3b10940559196ac4b83fdb3f1870b08e984d"), looks := false }, kinds := [], alts := [], laidByText := true, laidKinds := [.data, .widerDeep, .widerDeep, .widerDeep, .widerDeep, .pinned, .pinned], laidTests := true, laidLooks := .later }
def WordBackCardSaid : Prop := Claim7.holds Tryd.pinned (.plain (OpenSpec.ofChange wordBackSpec)) wordBackCard

/-- THE TIED CARD OF 'analemmalaw08.WordShort'. -/
def wordShortCard : Claim7 := { stood := { row := wordShortRow, standIns := [], harness := (true, "7816c95ae5c81f299e87386a0cfd3b10940559196ac4b83fdb3f1870b08e984d"), looks := false }, kinds := [], alts := [], laidByText := true, laidKinds := [.data, .widerDeep, .widerDeep, .widerDeep, .widerDeep, .pinned, .pinned], laidTests := true, laidLooks := .later }
def WordShortCardSaid : Prop := Claim7.holds Tryd.pinned (.plain (OpenSpec.ofChange wordShortSpec)) wordShortCard

/-- THE TIED CARD OF 'analemmalaw08.WordMore'. -/
def wordMoreCard : Claim7 := { stood := { row := wordMoreRow, standIns := [], harness := (true, "7816c95ae5c81f299e87386a0cfd3b10940559196ac4b83fdb3f1870b08e984d"), looks := false }, kinds := [], alts := [], laidByText := true, laidKinds := [.data, .widerDeep, .widerDeep, .widerDeep, .widerDeep, .pinned, .pinned], laidTests := true, laidLooks := .later }
def WordMoreCardSaid : Prop := Claim7.holds Tryd.pinned (.plain (OpenSpec.ofChange wordMoreSpec)) wordMoreCard

/-- THE TIED CARD OF 'analemmalaw08.WordOne'. -/
def wordOneCard : Claim7 := { stood := { row := wordOneRow, standIns := [], harness := (true, "7816c95ae5c81f299e87386a0cfd3b10940559196ac4b83fdb3f1870b08e984d"), looks := false }, kinds := [], alts := [], laidByText := true, laidKinds := [.data, .widerDeep, .widerDeep, .widerDeep, .widerDeep, .pinned, .pinned], laidTests := true, laidLooks := .later }
def WordOneCardSaid : Prop := Claim7.holds Tryd.pinned (.plain (OpenSpec.ofChange wordOneSpec)) wordOneCard

/-- THE TIED CARD OF 'analemmalaw08.WordNumbers'. -/
def wordNumbersCard : Claim7 := { stood := { row := wordNumbersRow, standIns := [], harness := (true, "7816c95ae5c81f299e87386a0cfd3b10940559196ac4b83fdb3f1870b08e984d"), looks := false }, kinds := [], alts := [], laidByText := true, laidKinds := [.data, .widerDeep, .widerDeep, .widerDeep, .widerDeep, .pinned, .pinned], laidTests := true, laidLooks := .later }
def WordNumbersCardSaid : Prop := Claim7.holds Tryd.pinned (.plain (OpenSpec.ofChange wordNumbersSpec)) wordNumbersCard

/-- THE SECOND FORM's CARD OF 'analemmalaw32.ReportCompares'. -/
def reportComparesUptoCard : Claim7 := { stood := { row := reportComparesUptoRow, standIns := [], harness := (true, "7816c95ae5c81f299e87386a0cfd3b10940559196ac4b83fdb3f1870b08e984d"), looks := false }, kinds := [], alts := [], laidByText := true, laidKinds := [.data, .data, .data, .data], laidTests := true, laidLooks := .later }
def ReportComparesUptoCardSaid : Prop := Claim7.holds Tryd.pinned (.plain (OpenSpec.upto reportComparesSpec)) reportComparesUptoCard

/-- THE SECOND FORM's CARD OF 'analemmalaw32.ReportTexts'. -/
def reportTextsUptoCard : Claim7 := { stood := { row := reportTextsUptoRow, standIns := [], harness := (true, "7816c95ae5c81f299e87386a0cfd3b10940559196ac4b83fdb3f1870b08e984d"), looks := false }, kinds := [], alts := [], laidByText := true, laidKinds := [.data, .data, .data, .data], laidTests := true, laidLooks := .later }
def ReportTextsUptoCardSaid : Prop := Claim7.holds Tryd.pinned (.plain (OpenSpec.upto reportTextsSpec)) reportTextsUptoCard

/-- THE SECOND FORM's CARD OF 'analemmalaw32.ReportAgain'. -/
def reportAgainUptoCard : Claim7 := { stood := { row := reportAgainUptoRow, standIns := [], harness := (true, "7816c95ae5c81f299e87386a0cfd3b10940559196ac4b83fdb3f1870b08e984d"), looks := false }, kinds := [], alts := [], laidByText := true, laidKinds := [.data, .data, .data, .data], laidTests := true, laidLooks := .later }
def ReportAgainUptoCardSaid : Prop := Claim7.holds Tryd.pinned (.plain (OpenSpec.upto reportAgainSpec)) reportAgainUptoCard

/-- THE SECOND FORM's CARD OF 'analemmalaw32.ReportShapes'. -/
def reportShapesUptoCard : Claim7 := { stood := { row := reportShapesUptoRow, standIns := [], harness := (true, "7816c95ae5c81f299e87386a0cfd3b10940559196ac4b83fdb3f1870b08e984d"), looks := false }, kinds := [], alts := [], laidByText := true, laidKinds := [.data, .data, .data, .data], laidTests := true, laidLooks := .later }
def ReportShapesUptoCardSaid : Prop := Claim7.holds Tryd.pinned (.plain (OpenSpec.upto reportShapesSpec)) reportShapesUptoCard

/-- THE SECOND FORM's CARD OF 'analemmalaw32.ReportLines'. -/
def reportLinesUptoCard : Claim7 := { stood := { row := reportLinesUptoRow, standIns := [], harness := (true, "7816c95ae5c81f299e87386a0cfd3b10940559196ac4b83fdb3f1870b08e984d"), looks := false }, kinds := [], alts := [], laidByText := true, laidKinds := [.data, .data, .data, .data], laidTests := true, laidLooks := .later }
def ReportLinesUptoCardSaid : Prop := Claim7.holds Tryd.pinned (.plain (OpenSpec.upto reportLinesSpec)) reportLinesUptoCard

/-- THE SECOND FORM's CARD OF 'analemmalaw08.WordFinds'. -/
def wordFindsUptoCard : Claim7 := { stood := { row := wordFindsUptoRow, standIns := [], harness := (true, "7816c95ae5c81f299e87386a0cfd3b10940559196ac4b83fdb3f1870b08e984d"), looks := false }, kinds := [], alts := [], laidByText := true, laidKinds := [.data, .widerDeep, .widerDeep, .widerDeep, .widerDeep, .pinned, .pinned], laidTests := true, laidLooks := .later }
def WordFindsUptoCardSaid : Prop := Claim7.holds Tryd.pinned (.plain (OpenSpec.upto wordFindsSpec)) wordFindsUptoCard

/-- THE SECOND FORM's CARD OF 'analemmalaw08.WordTexts'. -/
def wordTextsUptoCard : Claim7 := { stood := { row := wordTextsUptoRow, standIns := [], harness := (true, "7816c95ae5c81f299e87386a0cfd3b10940559196ac4b83fdb3f1870b08e984d"), looks := false }, kinds := [], alts := [], laidByText := true, laidKinds := [.data, .widerDeep, .widerDeep, .widerDeep, .widerDeep, .pinned, .pinned], laidTests := true, laidLooks := .later }
def WordTextsUptoCardSaid : Prop := Claim7.holds Tryd.pinned (.plain (OpenSpec.upto wordTextsSpec)) wordTextsUptoCard

/-- THE SECOND FORM's CARD OF 'analemmalaw08.WordBack'. -/
def wordBackUptoCard : Claim7 := { stood := { row := wordBackUptoRow, standIns := [], harness := (true, "7816c95ae5c81f299e87386a0cfd3b10940559196ac4b83fdb3f1870b08e984d"), looks := false }, kinds := [], alts := [], laidByText := true, laidKinds := [.data, .widerDeep, .widerDeep, .widerDeep, .widerDeep, .pinned, .pinned], laidTests := true, laidLooks := .later }
def WordBackUptoCardSaid : Prop := Claim7.holds Tryd.pinned (.plain (OpenSpec.upto wordBackSpec)) wordBackUptoCard

/-- THE SECOND FORM's CARD OF 'analemmalaw08.WordShort'. -/
def wordShortUptoCard : Claim7 := { stood := { row := wordShortUptoRow, standIns := [], harness := (true, "7816c95ae5c81f299e87386a0cfd3b10940559196ac4b83fdb3f1870b08e984d"), looks := false }, kinds := [], alts := [], laidByText := true, laidKinds := [.data, .widerDeep, .widerDeep, .widerDeep, .widerDeep, .pinned, .pinned], laidTests := true, laidLooks := .later }
def WordShortUptoCardSaid : Prop := Claim7.holds Tryd.pinned (.plain (OpenSpec.upto wordShortSpec)) wordShortUptoCard

/-- THE SECOND FORM's CARD OF 'analemmalaw08.WordMore'. -/
def wordMoreUptoCard : Claim7 := { stood := { row := wordMoreUptoRow, standIns := [], harness := (true, "7816c95ae5c81f299e87386a0cfd3b10940559196ac4b83fdb3f1870b08e984d"), looks := false }, kinds := [], alts := [], laidByText := true, laidKinds := [.data, .widerDeep, .widerDeep, .widerDeep, .widerDeep, .pinned, .pinned], laidTests := true, laidLooks := .later }
def WordMoreUptoCardSaid : Prop := Claim7.holds Tryd.pinned (.plain (OpenSpec.upto wordMoreSpec)) wordMoreUptoCard

/-- THE SECOND FORM's CARD OF 'analemmalaw08.WordOne'. -/
def wordOneUptoCard : Claim7 := { stood := { row := wordOneUptoRow, standIns := [], harness := (true, "7816c95ae5c81f299e87386a0cfd3b10940559196ac4b83fdb3f1870b08e984d"), looks := false }, kinds := [], alts := [], laidByText := true, laidKinds := [.data, .widerDeep, .widerDeep, .widerDeep, .widerDeep, .pinned, .pinned], laidTests := true, laidLooks := .later }
def WordOneUptoCardSaid : Prop := Claim7.holds Tryd.pinned (.plain (OpenSpec.upto wordOneSpec)) wordOneUptoCard

/-- THE SECOND FORM's CARD OF 'analemmalaw08.WordNumbers'. -/
def wordNumbersUptoCard : Claim7 := { stood := { row := wordNumbersUptoRow, standIns := [], harness := (true, "7816c95ae5c81f299e87386a0cfd3b10940559196ac4b83fdb3f1870b08e984d"), looks := false }, kinds := [], alts := [], laidByText := true, laidKinds := [.data, .widerDeep, .widerDeep, .widerDeep, .widerDeep, .pinned, .pinned], laidTests := true, laidLooks := .later }
def WordNumbersUptoCardSaid : Prop := Claim7.holds Tryd.pinned (.plain (OpenSpec.upto wordNumbersSpec)) wordNumbersUptoCard
end Rows
end Go.Proofs.YtggdfgdnpicepaaDoor
