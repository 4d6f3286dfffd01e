/-
  DERIVED. GIVEN WITH THE SEED: THE CARDS: each row of YtlideagcmhlkeaaDoorRows.lean that lists a variable, with what it lists TIED to the program's text (the seventh form; the later family's looks); each row that meets fmt, with fmt's text TOLD by the authors' own Lean function (tested against real Go, not proved from fmt's source: count such statements apart). THE CARD IS WHAT COUNTS. Prove the row's statement (the work); the ties are given (YtlideagcmhlkeaaDoorTie.lean); close each card by the builder's one call (the guide's Derived/Test/ToyasCard.lean, 'card_holds'). Laid BY PROGRAM, IN A SANDBOX (cutbox-door.mjs). By AI agents, Wed Nov 11 2026. No macro, syntax, notation, axiom, sorry.
-/
import Derived.Test.YtlideagcmhlkeaaDoorRows
import GoSem.ClaimSeven
namespace Go.Proofs.YtlideagcmhlkeaaDoor
namespace Rows

/-- THE TIED CARD OF 'analemmalaw30.ExpandAbbrs'. -/
def expandAbbrsCard : Claim7 := { stood := { row := expandAbbrsRow, standIns := [], harness := (true, "63b58b452cf0c8f4ad6321d5a3ac8cad8aecc0f9baeb8faf36d4ea3d95fe8b16"), looks := true }, kinds := [], alts := [], laidByText := true, laidKinds := [.data, .data, .data, .sentinel, .sentinel], laidTests := true, laidLooks := .later }
def ExpandAbbrsCardSaid : Prop := Claim7.holds Tryd.pinned (.plain (OpenSpec.ofChange expandAbbrsSpec)) expandAbbrsCard

/-- THE TIED CARD OF 'analemmalaw30.ExpandBack'. -/
def expandBackCard : Claim7 := { stood := { row := expandBackRow, standIns := [], harness := (true, "63b58b452cf0c8f4ad6321d5a3ac8cad8aecc0f9baeb8faf36d4ea3d95fe8b16"), looks := true }, kinds := [], alts := [], laidByText := true, laidKinds := [.data, .data, .data, .sentinel, .sentinel], laidTests := true, laidLooks := .later }
def ExpandBackCardSaid : Prop := Claim7.holds Tryd.pinned (.plain (OpenSpec.ofChange expandBackSpec)) expandBackCard

/-- THE TIED CARD OF 'analemmalaw30.ExpandWrong'. -/
def expandWrongCard : Claim7 := { stood := { row := expandWrongRow, standIns := [], harness := (true, "63b58b452cf0c8f4ad6321d5a3ac8cad8aecc0f9baeb8faf36d4ea3d95fe8b16"), looks := true }, kinds := [], alts := [], laidByText := true, laidKinds := [.data, .data, .data, .sentinel, .sentinel], laidTests := true, laidLooks := .later }
def ExpandWrongCardSaid : Prop := Claim7.holds Tryd.pinned (.plain (OpenSpec.ofChange expandWrongSpec)) expandWrongCard

/-- THE TIED CARD OF 'analemmalaw30.ExpandFirst'. -/
def expandFirstCard : Claim7 := { stood := { row := expandFirstRow, standIns := [], harness := (true, "63b58b452cf0c8f4ad6321d5a3ac8cad8aecc0f9baeb8faf36d4ea3d95fe8b16"), looks := true }, kinds := [], alts := [], laidByText := true, laidKinds := [.data, .data, .data, .sentinel, .sentinel], laidTests := true, laidLooks := .later }
def ExpandFirstCardSaid : Prop := Claim7.holds Tryd.pinned (.plain (OpenSpec.ofChange expandFirstSpec)) expandFirstCard

/-- THE TIED CARD OF 'analemmalaw29.TurnSources'. -/
def turnSourcesCard : Claim7 := { stood := { row := turnSourcesRow, standIns := [], harness := (true, "63b58b452cf0c8f4ad6321d5a3ac8cad8aecc0f9baeb8faf36d4ea3d95fe8b16"), looks := true }, kinds := [], alts := [], laidByText := true, laidKinds := [.data, .data, .data, .sentinel, .sentinel], laidTests := true, laidLooks := .later }
def TurnSourcesCardSaid : Prop := Claim7.holds Tryd.pinned (.plain (OpenSpec.ofChange turnSourcesSpec)) turnSourcesCard

/-- THE TIED CARD OF 'analemmalaw29.TurnFormats'. -/
def turnFormatsCard : Claim7 := { stood := { row := turnFormatsRow, standIns := [], harness := (true, "63b58b452cf0c8f4ad6321d5a3ac8cad8aecc0f9baeb8faf36d4ea3d95fe8b16"), looks := true }, kinds := [], alts := [], laidByText := true, laidKinds := [.data, .data, .data, .sentinel, .sentinel], laidTests := true, laidLooks := .later }
def TurnFormatsCardSaid : Prop := Claim7.holds Tryd.pinned (.plain (OpenSpec.ofChange turnFormatsSpec)) turnFormatsCard

/-- THE TIED CARD OF 'analemmalaw29.TurnTwice'. -/
def turnTwiceCard : Claim7 := { stood := { row := turnTwiceRow, standIns := [], harness := (true, "63b58b452cf0c8f4ad6321d5a3ac8cad8aecc0f9baeb8faf36d4ea3d95fe8b16"), looks := true }, kinds := [], alts := [], laidByText := true, laidKinds := [.data, .data, .data, .sentinel, .sentinel], laidTests := true, laidLooks := .later }
def TurnTwiceCardSaid : Prop := Claim7.holds Tryd.pinned (.plain (OpenSpec.ofChange turnTwiceSpec)) turnTwiceCard

/-- THE TIED CARD OF 'analemmalaw29.TurnApart'. -/
def turnApartCard : Claim7 := { stood := { row := turnApartRow, standIns := [], harness := (true, "63b58b452cf0c8f4ad6321d5a3ac8cad8aecc0f9baeb8faf36d4ea3d95fe8b16"), looks := true }, kinds := [], alts := [], laidByText := true, laidKinds := [.data, .data, .data, .sentinel, .sentinel], laidTests := true, laidLooks := .later }
def TurnApartCardSaid : Prop := Claim7.holds Tryd.pinned (.plain (OpenSpec.ofChange turnApartSpec)) turnApartCard

/-- THE TIED CARD OF 'analemmalaw32.ReportAgain'. -/
def reportAgainCard : Claim7 := { stood := { row := reportAgainRow, standIns := [], harness := (true, "63b58b452cf0c8f4ad6321d5a3ac8cad8aecc0f9baeb8faf36d4ea3d95fe8b16"), looks := true }, kinds := [], alts := [], laidByText := true, laidKinds := [.data, .data, .data, .data], laidTests := true, laidLooks := .later }
def ReportAgainCardSaid : Prop := Claim7.holds Tryd.pinned (.plain (OpenSpec.ofChange reportAgainSpec)) reportAgainCard

/-- THE TIED CARD OF 'analemmalaw32.ReportShapes'. -/
def reportShapesCard : Claim7 := { stood := { row := reportShapesRow, standIns := [], harness := (true, "63b58b452cf0c8f4ad6321d5a3ac8cad8aecc0f9baeb8faf36d4ea3d95fe8b16"), looks := true }, kinds := [], alts := [], laidByText := true, laidKinds := [.data, .data, .data, .data], laidTests := true, laidLooks := .later }
def ReportShapesCardSaid : Prop := Claim7.holds Tryd.pinned (.plain (OpenSpec.ofChange reportShapesSpec)) reportShapesCard

/-- THE SECOND FORM's CARD OF 'analemmalaw30.ExpandAbbrs'. -/
def expandAbbrsUptoCard : Claim7 := { stood := { row := expandAbbrsUptoRow, standIns := [], harness := (true, "63b58b452cf0c8f4ad6321d5a3ac8cad8aecc0f9baeb8faf36d4ea3d95fe8b16"), looks := true }, kinds := [], alts := [], laidByText := true, laidKinds := [.data, .data, .data, .sentinel, .sentinel], laidTests := true, laidLooks := .later }
def ExpandAbbrsUptoCardSaid : Prop := Claim7.holds Tryd.pinned (.plain (OpenSpec.upto expandAbbrsSpec)) expandAbbrsUptoCard

/-- THE SECOND FORM's CARD OF 'analemmalaw30.ExpandBack'. -/
def expandBackUptoCard : Claim7 := { stood := { row := expandBackUptoRow, standIns := [], harness := (true, "63b58b452cf0c8f4ad6321d5a3ac8cad8aecc0f9baeb8faf36d4ea3d95fe8b16"), looks := true }, kinds := [], alts := [], laidByText := true, laidKinds := [.data, .data, .data, .sentinel, .sentinel], laidTests := true, laidLooks := .later }
def ExpandBackUptoCardSaid : Prop := Claim7.holds Tryd.pinned (.plain (OpenSpec.upto expandBackSpec)) expandBackUptoCard

/-- THE SECOND FORM's CARD OF 'analemmalaw30.ExpandWrong'. -/
def expandWrongUptoCard : Claim7 := { stood := { row := expandWrongUptoRow, standIns := [], harness := (true, "63b58b452cf0c8f4ad6321d5a3ac8cad8aecc0f9baeb8faf36d4ea3d95fe8b16"), looks := true }, kinds := [], alts := [], laidByText := true, laidKinds := [.data, .data, .data, .sentinel, .sentinel], laidTests := true, laidLooks := .later }
def ExpandWrongUptoCardSaid : Prop := Claim7.holds Tryd.pinned (.plain (OpenSpec.upto expandWrongSpec)) expandWrongUptoCard

/-- THE SECOND FORM's CARD OF 'analemmalaw30.ExpandFirst'. -/
def expandFirstUptoCard : Claim7 := { stood := { row := expandFirstUptoRow, standIns := [], harness := (true, "63b58b452cf0c8f4ad6321d5a3ac8cad8aecc0f9baeb8faf36d4ea3d95fe8b16"), looks := true }, kinds := [], alts := [], laidByText := true, laidKinds := [.data, .data, .data, .sentinel, .sentinel], laidTests := true, laidLooks := .later }
def ExpandFirstUptoCardSaid : Prop := Claim7.holds Tryd.pinned (.plain (OpenSpec.upto expandFirstSpec)) expandFirstUptoCard

/-- THE SECOND FORM's CARD OF 'analemmalaw29.TurnSources'. -/
def turnSourcesUptoCard : Claim7 := { stood := { row := turnSourcesUptoRow, standIns := [], harness := (true, "63b58b452cf0c8f4ad6321d5a3ac8cad8aecc0f9baeb8faf36d4ea3d95fe8b16"), looks := true }, kinds := [], alts := [], laidByText := true, laidKinds := [.data, .data, .data, .sentinel, .sentinel], laidTests := true, laidLooks := .later }
def TurnSourcesUptoCardSaid : Prop := Claim7.holds Tryd.pinned (.plain (OpenSpec.upto turnSourcesSpec)) turnSourcesUptoCard

/-- THE SECOND FORM's CARD OF 'analemmalaw29.TurnFormats'. -/
def turnFormatsUptoCard : Claim7 := { stood := { row := turnFormatsUptoRow, standIns := [], harness := (true, "63b58b452cf0c8f4ad6321d5a3ac8cad8aecc0f9baeb8faf36d4ea3d95fe8b16"), looks := true }, kinds := [], alts := [], laidByText := true, laidKinds := [.data, .data, .data, .sentinel, .sentinel], laidTests := true, laidLooks := .later }
def TurnFormatsUptoCardSaid : Prop := Claim7.holds Tryd.pinned (.plain (OpenSpec.upto turnFormatsSpec)) turnFormatsUptoCard

/-- THE SECOND FORM's CARD OF 'analemmalaw29.TurnTwice'. -/
def turnTwiceUptoCard : Claim7 := { stood := { row := turnTwiceUptoRow, standIns := [], harness := (true, "63b58b452cf0c8f4ad6321d5a3ac8cad8aecc0f9baeb8faf36d4ea3d95fe8b16"), looks := true }, kinds := [], alts := [], laidByText := true, laidKinds := [.data, .data, .data, .sentinel, .sentinel], laidTests := true, laidLooks := .later }
def TurnTwiceUptoCardSaid : Prop := Claim7.holds Tryd.pinned (.plain (OpenSpec.upto turnTwiceSpec)) turnTwiceUptoCard

/-- THE SECOND FORM's CARD OF 'analemmalaw29.TurnApart'. -/
def turnApartUptoCard : Claim7 := { stood := { row := turnApartUptoRow, standIns := [], harness := (true, "63b58b452cf0c8f4ad6321d5a3ac8cad8aecc0f9baeb8faf36d4ea3d95fe8b16"), looks := true }, kinds := [], alts := [], laidByText := true, laidKinds := [.data, .data, .data, .sentinel, .sentinel], laidTests := true, laidLooks := .later }
def TurnApartUptoCardSaid : Prop := Claim7.holds Tryd.pinned (.plain (OpenSpec.upto turnApartSpec)) turnApartUptoCard

/-- THE SECOND FORM's CARD OF 'analemmalaw32.ReportAgain'. -/
def reportAgainUptoCard : Claim7 := { stood := { row := reportAgainUptoRow, standIns := [], harness := (true, "63b58b452cf0c8f4ad6321d5a3ac8cad8aecc0f9baeb8faf36d4ea3d95fe8b16"), looks := true }, kinds := [], alts := [], laidByText := true, laidKinds := [.data, .data, .data, .data], laidTests := true, laidLooks := .later }
def ReportAgainUptoCardSaid : Prop := Claim7.holds Tryd.pinned (.plain (OpenSpec.upto reportAgainSpec)) reportAgainUptoCard

/-- THE SECOND FORM's CARD OF 'analemmalaw32.ReportShapes'. -/
def reportShapesUptoCard : Claim7 := { stood := { row := reportShapesUptoRow, standIns := [], harness := (true, "63b58b452cf0c8f4ad6321d5a3ac8cad8aecc0f9baeb8faf36d4ea3d95fe8b16"), looks := true }, kinds := [], alts := [], laidByText := true, laidKinds := [.data, .data, .data, .data], laidTests := true, laidLooks := .later }
def ReportShapesUptoCardSaid : Prop := Claim7.holds Tryd.pinned (.plain (OpenSpec.upto reportShapesSpec)) reportShapesUptoCard
end Rows
end Go.Proofs.YtlideagcmhlkeaaDoor
