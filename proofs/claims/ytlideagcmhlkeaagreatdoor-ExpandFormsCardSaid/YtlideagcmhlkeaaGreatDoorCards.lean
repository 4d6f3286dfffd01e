/-
  DERIVED. GIVEN WITH THE SEED: THE CARDS: each row of YtlideagcmhlkeaaGreatDoorRows.lean that lists a variable, with what it lists TIED to the program's text (the seventh form; the later family's looks); each row that meets fmt, with fmt's text TOLD by the authors' own Lean function (tested against real Go, not proved from fmt's source: count such statements apart). THE CARD IS WHAT COUNTS. Prove the row's statement (the work); the ties are given (YtlideagcmhlkeaaGreatDoorTie.lean); close each card by the builder's one call (the guide's Derived/Test/ToyasCard.lean, 'card_holds'). Laid BY PROGRAM, IN A SANDBOX (cutbox-door.mjs). By AI agents, Wed Nov 11 2026. No macro, syntax, notation, axiom, sorry.
-/
import Derived.Test.YtlideagcmhlkeaaGreatDoorRows
import GoSem.ClaimSeven
namespace Go.Proofs.YtlideagcmhlkeaaGreatDoor
namespace Rows

/-- THE TIED CARD OF 'analemmalaw30.ExpandForms'. -/
def expandFormsCard : Claim7 := { stood := { row := expandFormsRow, standIns := [], harness := (true, "5217313aeb268e83579ce880af27f23c7b1a6939911a4b8420e87f75702651ef"), looks := true }, kinds := [], alts := [], laidByText := true, laidKinds := [.data, .data, .data, .sentinel, .sentinel], laidTests := true, laidLooks := .later }
def ExpandFormsCardSaid : Prop := Claim7.holds Tryz.pinned (.plain (OpenSpec.ofChange expandFormsSpec)) expandFormsCard

/-- THE SECOND FORM's CARD OF 'analemmalaw30.ExpandForms'. -/
def expandFormsUptoCard : Claim7 := { stood := { row := expandFormsUptoRow, standIns := [], harness := (true, "5217313aeb268e83579ce880af27f23c7b1a6939911a4b8420e87f75702651ef"), looks := true }, kinds := [], alts := [], laidByText := true, laidKinds := [.data, .data, .data, .sentinel, .sentinel], laidTests := true, laidLooks := .later }
def ExpandFormsUptoCardSaid : Prop := Claim7.holds Tryz.pinned (.plain (OpenSpec.upto expandFormsSpec)) expandFormsUptoCard
end Rows
end Go.Proofs.YtlideagcmhlkeaaGreatDoor
