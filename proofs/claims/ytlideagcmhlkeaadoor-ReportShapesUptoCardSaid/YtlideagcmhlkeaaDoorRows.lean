/-
  NARROWER THAN 'FOR EVERY INPUT', by the rows' own cells (each row's printed sentence says how): ExpandAbbrs: laid · ExpandBack: laid · ExpandWrong: laid · ExpandFirst: laid · TurnSources: laid · TurnFormats: laid · TurnTwice: laid · TurnApart: laid · ReportAgain: laid · ReportShapes: laid.
  DERIVED. THE GIVEN ROWS OF THIS SEAT. 10 by the template 'for every input the law returns true; each argument reads behind the call as it read before'; 0 by the template 'total and deterministic' (their statements: YtlideagcmhlkeaaDoorTotals.lean).
  GIVEN WITH THE SEED: the statements are not yours to turn. If you find one false, say at which input.
  Laid BY PROGRAM, IN A SANDBOX (cutbox-rows.mjs): the forced cells as the released guide's own fill.sh prints them over the translation fe51a0c3e032c417… (all of the seat's roots in one cut). By AI agents, Wed Nov 11 2026. No macro, syntax, notation, axiom, sorry.
-/
import Derived.Test.YtlideagcmhlkeaaDoorChecked
import GoSem.Claim
import GoSem.ClaimJoined
import GoSem.ClaimMapViews
import Derived.JoinedTies
import Derived.KernelRfl
namespace Go.Proofs.YtlideagcmhlkeaaDoor
/- THE CELL 'sum', in the pinned program and in every row, IS THE sha256 OF THE DUMP (.gsa) THAT YtlideagcmhlkeaaDoorProg.lean LOADS. Nothing in Lean hashes anything: it is a label: what it is worth is what the hold of that sum in a sandbox is worth. -/
noncomputable def Tryd.pinned : Pinned := { name := "ytlideagcmhlkeaadoor", sum := "fe51a0c3e032c417addfa4a509731ada33e82efbbc5b210dea098527bc674e7d", checked := Tryd.checked }
namespace Rows
def none {H : Type} : Left H := { results := [], args := [] }

/- WHAT THE LISTED PACKAGE-LEVEL VARIABLES READ AS WHEN THE CALL BEGINS. Each datum BY PROGRAM (the guide's laid-datum.mjs) off the statement by which the dump's own 'gosem.cut.vars' lays the variable. In a bare row this is a premise. The card (YtlideagcmhlkeaaDoorCards.lean) ties it to the program's text. -/
def laid_math_bits_deBruijn32tab {H : Type} : DataW H := .agg [.lit (.int .u8 0), .lit (.int .u8 1), .lit (.int .u8 28), .lit (.int .u8 2), .lit (.int .u8 29), .lit (.int .u8 14), .lit (.int .u8 24), .lit (.int .u8 3), .lit (.int .u8 30), .lit (.int .u8 22), .lit (.int .u8 20), .lit (.int .u8 15), .lit (.int .u8 25), .lit (.int .u8 17), .lit (.int .u8 4), .lit (.int .u8 8), .lit (.int .u8 31), .lit (.int .u8 27), .lit (.int .u8 13), .lit (.int .u8 23), .lit (.int .u8 21), .lit (.int .u8 19), .lit (.int .u8 16), .lit (.int .u8 7), .lit (.int .u8 26), .lit (.int .u8 12), .lit (.int .u8 18), .lit (.int .u8 6), .lit (.int .u8 11), .lit (.int .u8 5), .lit (.int .u8 10), .lit (.int .u8 9)]
def laid_math_bits_deBruijn64tab {H : Type} : DataW H := .agg [.lit (.int .u8 0), .lit (.int .u8 1), .lit (.int .u8 56), .lit (.int .u8 2), .lit (.int .u8 57), .lit (.int .u8 49), .lit (.int .u8 28), .lit (.int .u8 3), .lit (.int .u8 61), .lit (.int .u8 58), .lit (.int .u8 42), .lit (.int .u8 50), .lit (.int .u8 38), .lit (.int .u8 29), .lit (.int .u8 17), .lit (.int .u8 4), .lit (.int .u8 62), .lit (.int .u8 47), .lit (.int .u8 59), .lit (.int .u8 36), .lit (.int .u8 45), .lit (.int .u8 43), .lit (.int .u8 51), .lit (.int .u8 22), .lit (.int .u8 53), .lit (.int .u8 39), .lit (.int .u8 33), .lit (.int .u8 30), .lit (.int .u8 24), .lit (.int .u8 18), .lit (.int .u8 12), .lit (.int .u8 5), .lit (.int .u8 63), .lit (.int .u8 55), .lit (.int .u8 48), .lit (.int .u8 27), .lit (.int .u8 60), .lit (.int .u8 41), .lit (.int .u8 37), .lit (.int .u8 16), .lit (.int .u8 46), .lit (.int .u8 35), .lit (.int .u8 44), .lit (.int .u8 21), .lit (.int .u8 52), .lit (.int .u8 32), .lit (.int .u8 23), .lit (.int .u8 11), .lit (.int .u8 54), .lit (.int .u8 26), .lit (.int .u8 40), .lit (.int .u8 15), .lit (.int .u8 34), .lit (.int .u8 20), .lit (.int .u8 31), .lit (.int .u8 10), .lit (.int .u8 25), .lit (.int .u8 14), .lit (.int .u8 19), .lit (.int .u8 9), .lit (.int .u8 13), .lit (.int .u8 8), .lit (.int .u8 7), .lit (.int .u8 6)]
def laid_internal_strconv_uint64pow10 {H : Type} : DataW H := .agg [.lit (.int .u64 1), .lit (.int .u64 10), .lit (.int .u64 100), .lit (.int .u64 1000), .lit (.int .u64 10000), .lit (.int .u64 100000), .lit (.int .u64 1000000), .lit (.int .u64 10000000), .lit (.int .u64 100000000), .lit (.int .u64 1000000000), .lit (.int .u64 10000000000), .lit (.int .u64 100000000000), .lit (.int .u64 1000000000000), .lit (.int .u64 10000000000000), .lit (.int .u64 100000000000000), .lit (.int .u64 1000000000000000), .lit (.int .u64 10000000000000000), .lit (.int .u64 100000000000000000), .lit (.int .u64 1000000000000000000), .lit (.int .u64 10000000000000000000)]
def laid_strconv_ErrRange {H : Type} : DataW H := .iface "*errors.errorString" (.ptr (.agg [.lit (.string [118, 97, 108, 117, 101, 32, 111, 117, 116, 32, 111, 102, 32, 114, 97, 110, 103, 101])]))
def laid_strconv_ErrSyntax {H : Type} : DataW H := .iface "*errors.errorString" (.ptr (.agg [.lit (.string [105, 110, 118, 97, 108, 105, 100, 32, 115, 121, 110, 116, 97, 120])]))
def laid_analemma_report_words {H : Type} : DataW H := .agg [.agg [.lit (.int .i64 1), .lit (.string [115, 97, 118, 101])], .agg [.lit (.int .i64 2), .lit (.string [97, 116])], .agg [.lit (.int .i64 4), .lit (.string [111, 102, 102])], .agg [.lit (.int .i64 8), .lit (.string [102, 111, 114, 109, 97, 116])], .agg [.lit (.int .i64 16), .lit (.string [117, 110, 116, 105, 108])]]

/-- 'analemmalaw30.ExpandAbbrs': WHATEVER THE INPUT: true; the input reads as it did. -/
def expandAbbrsSpec : ChangeSpec := { name := "expandAbbrs", fn := fun _ => fun
  | [d1, d2] => { results := [.lit (.bool true)], args := [d1, d2] }
  | _ => none }
def expandAbbrsRow : OpenClaim := { program := "ytlideagcmhlkeaadoor", sum := "fe51a0c3e032c417addfa4a509731ada33e82efbbc5b210dea098527bc674e7d", func := "analemma/analemmalaw30.ExpandAbbrs", spec := "expandAbbrs", inPlace := ["internal/abi.NoEscape", "internal/bytealg.MakeNoZero", "internal/bytealg.IndexByteString", "internal/bytealg.IndexString"], unfollowed := true, recurses := true, named := ["internal/strconv.uint64pow10", "math/bits.deBruijn32tab", "math/bits.deBruijn64tab", "internal/bytealg.MaxLen", "strconv.ErrSyntax", "strconv.ErrRange"], apart := false, laid := [("math/bits.deBruijn32tab", laid_math_bits_deBruijn32tab), ("math/bits.deBruijn64tab", laid_math_bits_deBruijn64tab), ("internal/strconv.uint64pow10", laid_internal_strconv_uint64pow10), ("strconv.ErrRange", laid_strconv_ErrRange), ("strconv.ErrSyntax", laid_strconv_ErrSyntax)] }
def ExpandAbbrsSaid : Prop := expandAbbrsRow.holds Tryd.pinned (OpenSpec.ofChange expandAbbrsSpec)

/-- ITS FALSE NEIGHBOUR: 'it returns false'. Refute it at one input. -/
def expandAbbrsWrong : ChangeSpec := { name := "expandAbbrs", fn := fun _ => fun
  | [d1, d2] => { results := [.lit (.bool false)], args := [d1, d2] }
  | _ => none }
def ExpandAbbrsWrongFalsely : Prop := expandAbbrsRow.holds Tryd.pinned (OpenSpec.ofChange expandAbbrsWrong)

/-- 'analemmalaw30.ExpandBack': WHATEVER THE INPUT: true; the input reads as it did. -/
def expandBackSpec : ChangeSpec := { name := "expandBack", fn := fun _ => fun
  | [d] => { results := [.lit (.bool true)], args := [d] }
  | _ => none }
def expandBackRow : OpenClaim := { program := "ytlideagcmhlkeaadoor", sum := "fe51a0c3e032c417addfa4a509731ada33e82efbbc5b210dea098527bc674e7d", func := "analemma/analemmalaw30.ExpandBack", spec := "expandBack", inPlace := ["internal/abi.NoEscape", "internal/bytealg.MakeNoZero", "internal/bytealg.IndexByteString", "internal/bytealg.IndexString"], unfollowed := true, recurses := true, named := ["internal/strconv.uint64pow10", "math/bits.deBruijn32tab", "math/bits.deBruijn64tab", "internal/bytealg.MaxLen", "strconv.ErrSyntax", "strconv.ErrRange"], apart := false, laid := [("math/bits.deBruijn32tab", laid_math_bits_deBruijn32tab), ("math/bits.deBruijn64tab", laid_math_bits_deBruijn64tab), ("internal/strconv.uint64pow10", laid_internal_strconv_uint64pow10), ("strconv.ErrRange", laid_strconv_ErrRange), ("strconv.ErrSyntax", laid_strconv_ErrSyntax)] }
def ExpandBackSaid : Prop := expandBackRow.holds Tryd.pinned (OpenSpec.ofChange expandBackSpec)

/-- ITS FALSE NEIGHBOUR: 'it returns false'. Refute it at one input. -/
def expandBackWrong : ChangeSpec := { name := "expandBack", fn := fun _ => fun
  | [d] => { results := [.lit (.bool false)], args := [d] }
  | _ => none }
def ExpandBackWrongFalsely : Prop := expandBackRow.holds Tryd.pinned (OpenSpec.ofChange expandBackWrong)

/-- 'analemmalaw30.ExpandWrong': WHATEVER THE INPUT: true; the input reads as it did. -/
def expandWrongSpec : ChangeSpec := { name := "expandWrong", fn := fun _ => fun
  | [d1, d2, d3] => { results := [.lit (.bool true)], args := [d1, d2, d3] }
  | _ => none }
def expandWrongRow : OpenClaim := { program := "ytlideagcmhlkeaadoor", sum := "fe51a0c3e032c417addfa4a509731ada33e82efbbc5b210dea098527bc674e7d", func := "analemma/analemmalaw30.ExpandWrong", spec := "expandWrong", inPlace := ["internal/abi.NoEscape", "internal/bytealg.MakeNoZero", "internal/bytealg.IndexByteString", "internal/bytealg.IndexString"], unfollowed := true, recurses := true, named := ["internal/bytealg.MaxLen", "strconv.ErrSyntax", "strconv.ErrRange", "internal/strconv.uint64pow10", "math/bits.deBruijn32tab", "math/bits.deBruijn64tab"], apart := false, laid := [("math/bits.deBruijn32tab", laid_math_bits_deBruijn32tab), ("math/bits.deBruijn64tab", laid_math_bits_deBruijn64tab), ("internal/strconv.uint64pow10", laid_internal_strconv_uint64pow10), ("strconv.ErrRange", laid_strconv_ErrRange), ("strconv.ErrSyntax", laid_strconv_ErrSyntax)] }
def ExpandWrongSaid : Prop := expandWrongRow.holds Tryd.pinned (OpenSpec.ofChange expandWrongSpec)

/-- ITS FALSE NEIGHBOUR: 'it returns false'. Refute it at one input. -/
def expandWrongWrong : ChangeSpec := { name := "expandWrong", fn := fun _ => fun
  | [d1, d2, d3] => { results := [.lit (.bool false)], args := [d1, d2, d3] }
  | _ => none }
def ExpandWrongWrongFalsely : Prop := expandWrongRow.holds Tryd.pinned (OpenSpec.ofChange expandWrongWrong)

/-- 'analemmalaw30.ExpandFirst': WHATEVER THE INPUT: true; the input reads as it did. -/
def expandFirstSpec : ChangeSpec := { name := "expandFirst", fn := fun _ => fun
  | [d1, d2] => { results := [.lit (.bool true)], args := [d1, d2] }
  | _ => none }
def expandFirstRow : OpenClaim := { program := "ytlideagcmhlkeaadoor", sum := "fe51a0c3e032c417addfa4a509731ada33e82efbbc5b210dea098527bc674e7d", func := "analemma/analemmalaw30.ExpandFirst", spec := "expandFirst", inPlace := ["internal/abi.NoEscape", "internal/bytealg.MakeNoZero", "internal/bytealg.IndexByteString", "internal/bytealg.IndexString"], unfollowed := true, recurses := true, named := ["internal/strconv.uint64pow10", "math/bits.deBruijn32tab", "math/bits.deBruijn64tab", "internal/bytealg.MaxLen", "strconv.ErrSyntax", "strconv.ErrRange"], apart := false, laid := [("math/bits.deBruijn32tab", laid_math_bits_deBruijn32tab), ("math/bits.deBruijn64tab", laid_math_bits_deBruijn64tab), ("internal/strconv.uint64pow10", laid_internal_strconv_uint64pow10), ("strconv.ErrRange", laid_strconv_ErrRange), ("strconv.ErrSyntax", laid_strconv_ErrSyntax)] }
def ExpandFirstSaid : Prop := expandFirstRow.holds Tryd.pinned (OpenSpec.ofChange expandFirstSpec)

/-- ITS FALSE NEIGHBOUR: 'it returns false'. Refute it at one input. -/
def expandFirstWrong : ChangeSpec := { name := "expandFirst", fn := fun _ => fun
  | [d1, d2] => { results := [.lit (.bool false)], args := [d1, d2] }
  | _ => none }
def ExpandFirstWrongFalsely : Prop := expandFirstRow.holds Tryd.pinned (OpenSpec.ofChange expandFirstWrong)

/-- 'analemmalaw29.TurnSources': WHATEVER THE INPUT: true; the input reads as it did. -/
def turnSourcesSpec : ChangeSpec := { name := "turnSources", fn := fun _ => fun
  | [d1, d2, d3] => { results := [.lit (.bool true)], args := [d1, d2, d3] }
  | _ => none }
def turnSourcesRow : OpenClaim := { program := "ytlideagcmhlkeaadoor", sum := "fe51a0c3e032c417addfa4a509731ada33e82efbbc5b210dea098527bc674e7d", func := "analemma/analemmalaw29.TurnSources", spec := "turnSources", inPlace := ["internal/bytealg.IndexByteString", "internal/bytealg.IndexString"], unfollowed := true, recurses := true, named := ["internal/bytealg.MaxLen", "strconv.ErrSyntax", "strconv.ErrRange", "internal/strconv.uint64pow10", "math/bits.deBruijn32tab", "math/bits.deBruijn64tab"], apart := false, laid := [("math/bits.deBruijn32tab", laid_math_bits_deBruijn32tab), ("math/bits.deBruijn64tab", laid_math_bits_deBruijn64tab), ("internal/strconv.uint64pow10", laid_internal_strconv_uint64pow10), ("strconv.ErrRange", laid_strconv_ErrRange), ("strconv.ErrSyntax", laid_strconv_ErrSyntax)] }
def TurnSourcesSaid : Prop := turnSourcesRow.holds Tryd.pinned (OpenSpec.ofChange turnSourcesSpec)

/-- ITS FALSE NEIGHBOUR: 'it returns false'. Refute it at one input. -/
def turnSourcesWrong : ChangeSpec := { name := "turnSources", fn := fun _ => fun
  | [d1, d2, d3] => { results := [.lit (.bool false)], args := [d1, d2, d3] }
  | _ => none }
def TurnSourcesWrongFalsely : Prop := turnSourcesRow.holds Tryd.pinned (OpenSpec.ofChange turnSourcesWrong)

/-- 'analemmalaw29.TurnFormats': WHATEVER THE INPUT: true; the input reads as it did. -/
def turnFormatsSpec : ChangeSpec := { name := "turnFormats", fn := fun _ => fun
  | [d1, d2, d3, d4] => { results := [.lit (.bool true)], args := [d1, d2, d3, d4] }
  | _ => none }
def turnFormatsRow : OpenClaim := { program := "ytlideagcmhlkeaadoor", sum := "fe51a0c3e032c417addfa4a509731ada33e82efbbc5b210dea098527bc674e7d", func := "analemma/analemmalaw29.TurnFormats", spec := "turnFormats", inPlace := ["internal/bytealg.IndexByteString", "internal/bytealg.IndexString"], unfollowed := true, recurses := true, named := ["internal/bytealg.MaxLen", "strconv.ErrSyntax", "strconv.ErrRange", "internal/strconv.uint64pow10", "math/bits.deBruijn32tab", "math/bits.deBruijn64tab"], apart := false, laid := [("math/bits.deBruijn32tab", laid_math_bits_deBruijn32tab), ("math/bits.deBruijn64tab", laid_math_bits_deBruijn64tab), ("internal/strconv.uint64pow10", laid_internal_strconv_uint64pow10), ("strconv.ErrRange", laid_strconv_ErrRange), ("strconv.ErrSyntax", laid_strconv_ErrSyntax)] }
def TurnFormatsSaid : Prop := turnFormatsRow.holds Tryd.pinned (OpenSpec.ofChange turnFormatsSpec)

/-- ITS FALSE NEIGHBOUR: 'it returns false'. Refute it at one input. -/
def turnFormatsWrong : ChangeSpec := { name := "turnFormats", fn := fun _ => fun
  | [d1, d2, d3, d4] => { results := [.lit (.bool false)], args := [d1, d2, d3, d4] }
  | _ => none }
def TurnFormatsWrongFalsely : Prop := turnFormatsRow.holds Tryd.pinned (OpenSpec.ofChange turnFormatsWrong)

/-- 'analemmalaw29.TurnTwice': WHATEVER THE INPUT: true; the input reads as it did. -/
def turnTwiceSpec : ChangeSpec := { name := "turnTwice", fn := fun _ => fun
  | [d] => { results := [.lit (.bool true)], args := [d] }
  | _ => none }
def turnTwiceRow : OpenClaim := { program := "ytlideagcmhlkeaadoor", sum := "fe51a0c3e032c417addfa4a509731ada33e82efbbc5b210dea098527bc674e7d", func := "analemma/analemmalaw29.TurnTwice", spec := "turnTwice", inPlace := ["internal/abi.NoEscape", "internal/bytealg.MakeNoZero", "internal/bytealg.IndexByteString", "internal/bytealg.IndexString"], unfollowed := true, recurses := true, named := ["internal/bytealg.MaxLen", "strconv.ErrSyntax", "strconv.ErrRange", "internal/strconv.uint64pow10", "math/bits.deBruijn32tab", "math/bits.deBruijn64tab"], apart := false, laid := [("math/bits.deBruijn32tab", laid_math_bits_deBruijn32tab), ("math/bits.deBruijn64tab", laid_math_bits_deBruijn64tab), ("internal/strconv.uint64pow10", laid_internal_strconv_uint64pow10), ("strconv.ErrRange", laid_strconv_ErrRange), ("strconv.ErrSyntax", laid_strconv_ErrSyntax)] }
def TurnTwiceSaid : Prop := turnTwiceRow.holds Tryd.pinned (OpenSpec.ofChange turnTwiceSpec)

/-- ITS FALSE NEIGHBOUR: 'it returns false'. Refute it at one input. -/
def turnTwiceWrong : ChangeSpec := { name := "turnTwice", fn := fun _ => fun
  | [d] => { results := [.lit (.bool false)], args := [d] }
  | _ => none }
def TurnTwiceWrongFalsely : Prop := turnTwiceRow.holds Tryd.pinned (OpenSpec.ofChange turnTwiceWrong)

/-- 'analemmalaw29.TurnApart': WHATEVER THE INPUT: true; the input reads as it did. -/
def turnApartSpec : ChangeSpec := { name := "turnApart", fn := fun _ => fun
  | [d] => { results := [.lit (.bool true)], args := [d] }
  | _ => none }
def turnApartRow : OpenClaim := { program := "ytlideagcmhlkeaadoor", sum := "fe51a0c3e032c417addfa4a509731ada33e82efbbc5b210dea098527bc674e7d", func := "analemma/analemmalaw29.TurnApart", spec := "turnApart", inPlace := ["internal/abi.NoEscape", "internal/bytealg.MakeNoZero", "internal/bytealg.IndexByteString", "internal/bytealg.IndexString"], unfollowed := true, recurses := true, named := ["internal/bytealg.MaxLen", "strconv.ErrSyntax", "strconv.ErrRange", "internal/strconv.uint64pow10", "math/bits.deBruijn32tab", "math/bits.deBruijn64tab"], apart := false, laid := [("math/bits.deBruijn32tab", laid_math_bits_deBruijn32tab), ("math/bits.deBruijn64tab", laid_math_bits_deBruijn64tab), ("internal/strconv.uint64pow10", laid_internal_strconv_uint64pow10), ("strconv.ErrRange", laid_strconv_ErrRange), ("strconv.ErrSyntax", laid_strconv_ErrSyntax)] }
def TurnApartSaid : Prop := turnApartRow.holds Tryd.pinned (OpenSpec.ofChange turnApartSpec)

/-- ITS FALSE NEIGHBOUR: 'it returns false'. Refute it at one input. -/
def turnApartWrong : ChangeSpec := { name := "turnApart", fn := fun _ => fun
  | [d] => { results := [.lit (.bool false)], args := [d] }
  | _ => none }
def TurnApartWrongFalsely : Prop := turnApartRow.holds Tryd.pinned (OpenSpec.ofChange turnApartWrong)

/-- 'analemmalaw32.ReportAgain': WHATEVER THE INPUT: true; the input reads as it did. -/
def reportAgainSpec : ChangeSpec := { name := "reportAgain", fn := fun _ => fun
  | [d1, d2, d3, d4] => { results := [.lit (.bool true)], args := [d1, d2, d3, d4] }
  | _ => none }
def reportAgainRow : OpenClaim := { program := "ytlideagcmhlkeaadoor", sum := "fe51a0c3e032c417addfa4a509731ada33e82efbbc5b210dea098527bc674e7d", func := "analemma/analemmalaw32.ReportAgain", spec := "reportAgain", inPlace := ["internal/abi.NoEscape"], unfollowed := true, recurses := true, named := ["analemma/report.words", "internal/strconv.uint64pow10", "math/bits.deBruijn32tab", "math/bits.deBruijn64tab"], apart := false, laid := [("math/bits.deBruijn32tab", laid_math_bits_deBruijn32tab), ("math/bits.deBruijn64tab", laid_math_bits_deBruijn64tab), ("internal/strconv.uint64pow10", laid_internal_strconv_uint64pow10), ("analemma/report.words", laid_analemma_report_words)] }
def ReportAgainSaid : Prop := reportAgainRow.holds Tryd.pinned (OpenSpec.ofChange reportAgainSpec)

/-- ITS FALSE NEIGHBOUR: 'it returns false'. Refute it at one input. -/
def reportAgainWrong : ChangeSpec := { name := "reportAgain", fn := fun _ => fun
  | [d1, d2, d3, d4] => { results := [.lit (.bool false)], args := [d1, d2, d3, d4] }
  | _ => none }
def ReportAgainWrongFalsely : Prop := reportAgainRow.holds Tryd.pinned (OpenSpec.ofChange reportAgainWrong)

/-- 'analemmalaw32.ReportShapes': WHATEVER THE INPUT: true; the input reads as it did. -/
def reportShapesSpec : ChangeSpec := { name := "reportShapes", fn := fun _ => fun
  | [d1, d2, d3] => { results := [.lit (.bool true)], args := [d1, d2, d3] }
  | _ => none }
def reportShapesRow : OpenClaim := { program := "ytlideagcmhlkeaadoor", sum := "fe51a0c3e032c417addfa4a509731ada33e82efbbc5b210dea098527bc674e7d", func := "analemma/analemmalaw32.ReportShapes", spec := "reportShapes", inPlace := ["internal/abi.NoEscape"], unfollowed := true, recurses := true, named := ["analemma/report.words", "internal/strconv.uint64pow10", "math/bits.deBruijn32tab", "math/bits.deBruijn64tab"], apart := false, laid := [("math/bits.deBruijn32tab", laid_math_bits_deBruijn32tab), ("math/bits.deBruijn64tab", laid_math_bits_deBruijn64tab), ("internal/strconv.uint64pow10", laid_internal_strconv_uint64pow10), ("analemma/report.words", laid_analemma_report_words)] }
def ReportShapesSaid : Prop := reportShapesRow.holds Tryd.pinned (OpenSpec.ofChange reportShapesSpec)

/-- ITS FALSE NEIGHBOUR: 'it returns false'. Refute it at one input. -/
def reportShapesWrong : ChangeSpec := { name := "reportShapes", fn := fun _ => fun
  | [d1, d2, d3] => { results := [.lit (.bool false)], args := [d1, d2, d3] }
  | _ => none }
def ReportShapesWrongFalsely : Prop := reportShapesRow.holds Tryd.pinned (OpenSpec.ofChange reportShapesWrong)

/- THE SECOND FORM. 'bulk': how many values and letters a reading holds, each counted each time it is reached (what is shared counts as often as it is met; a slice's spare places count too). A statement '..UptoSaid' is the law's where the arguments, and the package variables that the reading takes, are together of bulk at most 1048576: NARROWER than '..Said'. Prove '..Said' where nothing that the law and all that it calls make is longer than what came in: it says more and counts as full. Else prove '..UptoSaid'. A law counts once. -/
mutual
def uptoBulk {H : Type} : DataW H → Nat
  | .lit (.string bytes) => bytes.length + 1
  | .lit _ => 1
  | .nil => 1
  | .ptr d => uptoBulk d + 1
  | .slice elems spare => uptoBulkAll elems + uptoBulkAll spare + 1
  | .agg parts => uptoBulkAll parts + 1
  | .iface _ d => uptoBulk d + 1
  | .map entries => uptoBulkEntries entries + 1
  | .held _ => 1
def uptoBulkAll {H : Type} : List (DataW H) → Nat
  | [] => 0
  | d :: r => uptoBulk d + uptoBulkAll r
def uptoBulkEntries {H : Type} : List (Lit × DataW H) → Nat
  | [] => 0
  | x :: r => uptoBulkEntry x + uptoBulkEntries r
def uptoBulkEntry {H : Type} : Lit × DataW H → Nat
  | (.string bytes, d) => bytes.length + uptoBulk d + 1
  | (_, d) => uptoBulk d + 1
 end
def uptoSmall : (H : Type) → List (DataW H) → Bool := fun _ ds => decide (uptoBulkAll ds ≤ 1048576)
def OpenSpec.upto (s : _root_.Go.ChangeSpec) : _root_.Go.OpenSpec := { _root_.Go.OpenSpec.ofChange s with cond := some uptoSmall }

/-- 'analemmalaw30.ExpandAbbrs', WHERE WHAT IT READS IS OF BULK AT MOST 1048576: true; the input reads as it did. -/
def expandAbbrsUptoRow : OpenClaim := { program := "ytlideagcmhlkeaadoor", sum := "fe51a0c3e032c417addfa4a509731ada33e82efbbc5b210dea098527bc674e7d", func := "analemma/analemmalaw30.ExpandAbbrs", spec := "expandAbbrs", inPlace := ["internal/abi.NoEscape", "internal/bytealg.MakeNoZero", "internal/bytealg.IndexByteString", "internal/bytealg.IndexString"], unfollowed := true, recurses := true, named := ["internal/strconv.uint64pow10", "math/bits.deBruijn32tab", "math/bits.deBruijn64tab", "internal/bytealg.MaxLen", "strconv.ErrSyntax", "strconv.ErrRange"], apart := false, laid := [("math/bits.deBruijn32tab", laid_math_bits_deBruijn32tab), ("math/bits.deBruijn64tab", laid_math_bits_deBruijn64tab), ("internal/strconv.uint64pow10", laid_internal_strconv_uint64pow10), ("strconv.ErrRange", laid_strconv_ErrRange), ("strconv.ErrSyntax", laid_strconv_ErrSyntax)], narrowed := true }
def ExpandAbbrsUptoSaid : Prop := expandAbbrsUptoRow.holds Tryd.pinned (OpenSpec.upto expandAbbrsSpec)

/-- 'analemmalaw30.ExpandBack', WHERE WHAT IT READS IS OF BULK AT MOST 1048576: true; the input reads as it did. -/
def expandBackUptoRow : OpenClaim := { program := "ytlideagcmhlkeaadoor", sum := "fe51a0c3e032c417addfa4a509731ada33e82efbbc5b210dea098527bc674e7d", func := "analemma/analemmalaw30.ExpandBack", spec := "expandBack", inPlace := ["internal/abi.NoEscape", "internal/bytealg.MakeNoZero", "internal/bytealg.IndexByteString", "internal/bytealg.IndexString"], unfollowed := true, recurses := true, named := ["internal/strconv.uint64pow10", "math/bits.deBruijn32tab", "math/bits.deBruijn64tab", "internal/bytealg.MaxLen", "strconv.ErrSyntax", "strconv.ErrRange"], apart := false, laid := [("math/bits.deBruijn32tab", laid_math_bits_deBruijn32tab), ("math/bits.deBruijn64tab", laid_math_bits_deBruijn64tab), ("internal/strconv.uint64pow10", laid_internal_strconv_uint64pow10), ("strconv.ErrRange", laid_strconv_ErrRange), ("strconv.ErrSyntax", laid_strconv_ErrSyntax)], narrowed := true }
def ExpandBackUptoSaid : Prop := expandBackUptoRow.holds Tryd.pinned (OpenSpec.upto expandBackSpec)

/-- 'analemmalaw30.ExpandWrong', WHERE WHAT IT READS IS OF BULK AT MOST 1048576: true; the input reads as it did. -/
def expandWrongUptoRow : OpenClaim := { program := "ytlideagcmhlkeaadoor", sum := "fe51a0c3e032c417addfa4a509731ada33e82efbbc5b210dea098527bc674e7d", func := "analemma/analemmalaw30.ExpandWrong", spec := "expandWrong", inPlace := ["internal/abi.NoEscape", "internal/bytealg.MakeNoZero", "internal/bytealg.IndexByteString", "internal/bytealg.IndexString"], unfollowed := true, recurses := true, named := ["internal/bytealg.MaxLen", "strconv.ErrSyntax", "strconv.ErrRange", "internal/strconv.uint64pow10", "math/bits.deBruijn32tab", "math/bits.deBruijn64tab"], apart := false, laid := [("math/bits.deBruijn32tab", laid_math_bits_deBruijn32tab), ("math/bits.deBruijn64tab", laid_math_bits_deBruijn64tab), ("internal/strconv.uint64pow10", laid_internal_strconv_uint64pow10), ("strconv.ErrRange", laid_strconv_ErrRange), ("strconv.ErrSyntax", laid_strconv_ErrSyntax)], narrowed := true }
def ExpandWrongUptoSaid : Prop := expandWrongUptoRow.holds Tryd.pinned (OpenSpec.upto expandWrongSpec)

/-- 'analemmalaw30.ExpandFirst', WHERE WHAT IT READS IS OF BULK AT MOST 1048576: true; the input reads as it did. -/
def expandFirstUptoRow : OpenClaim := { program := "ytlideagcmhlkeaadoor", sum := "fe51a0c3e032c417addfa4a509731ada33e82efbbc5b210dea098527bc674e7d", func := "analemma/analemmalaw30.ExpandFirst", spec := "expandFirst", inPlace := ["internal/abi.NoEscape", "internal/bytealg.MakeNoZero", "internal/bytealg.IndexByteString", "internal/bytealg.IndexString"], unfollowed := true, recurses := true, named := ["internal/strconv.uint64pow10", "math/bits.deBruijn32tab", "math/bits.deBruijn64tab", "internal/bytealg.MaxLen", "strconv.ErrSyntax", "strconv.ErrRange"], apart := false, laid := [("math/bits.deBruijn32tab", laid_math_bits_deBruijn32tab), ("math/bits.deBruijn64tab", laid_math_bits_deBruijn64tab), ("internal/strconv.uint64pow10", laid_internal_strconv_uint64pow10), ("strconv.ErrRange", laid_strconv_ErrRange), ("strconv.ErrSyntax", laid_strconv_ErrSyntax)], narrowed := true }
def ExpandFirstUptoSaid : Prop := expandFirstUptoRow.holds Tryd.pinned (OpenSpec.upto expandFirstSpec)

/-- 'analemmalaw29.TurnSources', WHERE WHAT IT READS IS OF BULK AT MOST 1048576: true; the input reads as it did. -/
def turnSourcesUptoRow : OpenClaim := { program := "ytlideagcmhlkeaadoor", sum := "fe51a0c3e032c417addfa4a509731ada33e82efbbc5b210dea098527bc674e7d", func := "analemma/analemmalaw29.TurnSources", spec := "turnSources", inPlace := ["internal/bytealg.IndexByteString", "internal/bytealg.IndexString"], unfollowed := true, recurses := true, named := ["internal/bytealg.MaxLen", "strconv.ErrSyntax", "strconv.ErrRange", "internal/strconv.uint64pow10", "math/bits.deBruijn32tab", "math/bits.deBruijn64tab"], apart := false, laid := [("math/bits.deBruijn32tab", laid_math_bits_deBruijn32tab), ("math/bits.deBruijn64tab", laid_math_bits_deBruijn64tab), ("internal/strconv.uint64pow10", laid_internal_strconv_uint64pow10), ("strconv.ErrRange", laid_strconv_ErrRange), ("strconv.ErrSyntax", laid_strconv_ErrSyntax)], narrowed := true }
def TurnSourcesUptoSaid : Prop := turnSourcesUptoRow.holds Tryd.pinned (OpenSpec.upto turnSourcesSpec)

/-- 'analemmalaw29.TurnFormats', WHERE WHAT IT READS IS OF BULK AT MOST 1048576: true; the input reads as it did. -/
def turnFormatsUptoRow : OpenClaim := { program := "ytlideagcmhlkeaadoor", sum := "fe51a0c3e032c417addfa4a509731ada33e82efbbc5b210dea098527bc674e7d", func := "analemma/analemmalaw29.TurnFormats", spec := "turnFormats", inPlace := ["internal/bytealg.IndexByteString", "internal/bytealg.IndexString"], unfollowed := true, recurses := true, named := ["internal/bytealg.MaxLen", "strconv.ErrSyntax", "strconv.ErrRange", "internal/strconv.uint64pow10", "math/bits.deBruijn32tab", "math/bits.deBruijn64tab"], apart := false, laid := [("math/bits.deBruijn32tab", laid_math_bits_deBruijn32tab), ("math/bits.deBruijn64tab", laid_math_bits_deBruijn64tab), ("internal/strconv.uint64pow10", laid_internal_strconv_uint64pow10), ("strconv.ErrRange", laid_strconv_ErrRange), ("strconv.ErrSyntax", laid_strconv_ErrSyntax)], narrowed := true }
def TurnFormatsUptoSaid : Prop := turnFormatsUptoRow.holds Tryd.pinned (OpenSpec.upto turnFormatsSpec)

/-- 'analemmalaw29.TurnTwice', WHERE WHAT IT READS IS OF BULK AT MOST 1048576: true; the input reads as it did. -/
def turnTwiceUptoRow : OpenClaim := { program := "ytlideagcmhlkeaadoor", sum := "fe51a0c3e032c417addfa4a509731ada33e82efbbc5b210dea098527bc674e7d", func := "analemma/analemmalaw29.TurnTwice", spec := "turnTwice", inPlace := ["internal/abi.NoEscape", "internal/bytealg.MakeNoZero", "internal/bytealg.IndexByteString", "internal/bytealg.IndexString"], unfollowed := true, recurses := true, named := ["internal/bytealg.MaxLen", "strconv.ErrSyntax", "strconv.ErrRange", "internal/strconv.uint64pow10", "math/bits.deBruijn32tab", "math/bits.deBruijn64tab"], apart := false, laid := [("math/bits.deBruijn32tab", laid_math_bits_deBruijn32tab), ("math/bits.deBruijn64tab", laid_math_bits_deBruijn64tab), ("internal/strconv.uint64pow10", laid_internal_strconv_uint64pow10), ("strconv.ErrRange", laid_strconv_ErrRange), ("strconv.ErrSyntax", laid_strconv_ErrSyntax)], narrowed := true }
def TurnTwiceUptoSaid : Prop := turnTwiceUptoRow.holds Tryd.pinned (OpenSpec.upto turnTwiceSpec)

/-- 'analemmalaw29.TurnApart', WHERE WHAT IT READS IS OF BULK AT MOST 1048576: true; the input reads as it did. -/
def turnApartUptoRow : OpenClaim := { program := "ytlideagcmhlkeaadoor", sum := "fe51a0c3e032c417addfa4a509731ada33e82efbbc5b210dea098527bc674e7d", func := "analemma/analemmalaw29.TurnApart", spec := "turnApart", inPlace := ["internal/abi.NoEscape", "internal/bytealg.MakeNoZero", "internal/bytealg.IndexByteString", "internal/bytealg.IndexString"], unfollowed := true, recurses := true, named := ["internal/bytealg.MaxLen", "strconv.ErrSyntax", "strconv.ErrRange", "internal/strconv.uint64pow10", "math/bits.deBruijn32tab", "math/bits.deBruijn64tab"], apart := false, laid := [("math/bits.deBruijn32tab", laid_math_bits_deBruijn32tab), ("math/bits.deBruijn64tab", laid_math_bits_deBruijn64tab), ("internal/strconv.uint64pow10", laid_internal_strconv_uint64pow10), ("strconv.ErrRange", laid_strconv_ErrRange), ("strconv.ErrSyntax", laid_strconv_ErrSyntax)], narrowed := true }
def TurnApartUptoSaid : Prop := turnApartUptoRow.holds Tryd.pinned (OpenSpec.upto turnApartSpec)

/-- 'analemmalaw32.ReportAgain', WHERE WHAT IT READS IS OF BULK AT MOST 1048576: true; the input reads as it did. -/
def reportAgainUptoRow : OpenClaim := { program := "ytlideagcmhlkeaadoor", sum := "fe51a0c3e032c417addfa4a509731ada33e82efbbc5b210dea098527bc674e7d", func := "analemma/analemmalaw32.ReportAgain", spec := "reportAgain", inPlace := ["internal/abi.NoEscape"], unfollowed := true, recurses := true, named := ["analemma/report.words", "internal/strconv.uint64pow10", "math/bits.deBruijn32tab", "math/bits.deBruijn64tab"], apart := false, laid := [("math/bits.deBruijn32tab", laid_math_bits_deBruijn32tab), ("math/bits.deBruijn64tab", laid_math_bits_deBruijn64tab), ("internal/strconv.uint64pow10", laid_internal_strconv_uint64pow10), ("analemma/report.words", laid_analemma_report_words)], narrowed := true }
def ReportAgainUptoSaid : Prop := reportAgainUptoRow.holds Tryd.pinned (OpenSpec.upto reportAgainSpec)

/-- 'analemmalaw32.ReportShapes', WHERE WHAT IT READS IS OF BULK AT MOST 1048576: true; the input reads as it did. -/
def reportShapesUptoRow : OpenClaim := { program := "ytlideagcmhlkeaadoor", sum := "fe51a0c3e032c417addfa4a509731ada33e82efbbc5b210dea098527bc674e7d", func := "analemma/analemmalaw32.ReportShapes", spec := "reportShapes", inPlace := ["internal/abi.NoEscape"], unfollowed := true, recurses := true, named := ["analemma/report.words", "internal/strconv.uint64pow10", "math/bits.deBruijn32tab", "math/bits.deBruijn64tab"], apart := false, laid := [("math/bits.deBruijn32tab", laid_math_bits_deBruijn32tab), ("math/bits.deBruijn64tab", laid_math_bits_deBruijn64tab), ("internal/strconv.uint64pow10", laid_internal_strconv_uint64pow10), ("analemma/report.words", laid_analemma_report_words)], narrowed := true }
def ReportShapesUptoSaid : Prop := reportShapesUptoRow.holds Tryd.pinned (OpenSpec.upto reportShapesSpec)

end Rows
end Go.Proofs.YtlideagcmhlkeaaDoor
