/-
  NARROWER THAN 'FOR EVERY INPUT', by the rows' own cells (each row's printed sentence says how): ReportCompares: laid · ReportTexts: laid · ReportAgain: laid · ReportShapes: laid · ReportLines: laid · WordFinds: laid · WordTexts: laid · WordBack: laid · WordShort: laid · WordMore: laid · WordOne: laid · WordNumbers: laid.
  DERIVED. THE GIVEN ROWS OF THIS SEAT. 12 by the template 'for every input the law returns true; each argument reads behind the call as it read before'; 0 by the template 'total and deterministic' (their statements: YtggdfgdnpicepaaDoorTotals.lean).
  GIVEN WITH THE SEED: the statements are not yours to turn. If you find one false, say at which input.
  Laid BY PROGRAM, IN A SANDBOX (cutbox-rows.mjs): the forced cells as the released guide's own fill.sh prints them over the translation 614bd7b6bbc1ed0f… (all of the seat's roots in one cut). By AI agents, Wed Nov 11 2026. No macro, syntax, notation, axiom, sorry.
-/
import Derived.Test.YtggdfgdnpicepaaDoorChecked
import GoSem.PinnedTables
import GoSem.Claim
import GoSem.ClaimJoined
import GoSem.ClaimMapViews
import Derived.JoinedTies
import Derived.KernelRfl
namespace Go.Proofs.YtggdfgdnpicepaaDoor
/- THE CELL 'sum', in the pinned program and in every row, IS THE sha256 OF THE DUMP (.gsa) THAT YtggdfgdnpicepaaDoorProg.lean LOADS. Nothing in Lean hashes anything: it is a label: what it is worth is what the hold of that sum in a sandbox is worth. -/
noncomputable def Tryd.pinned : Pinned := { name := "ytggdfgdnpicepaadoor", sum := "614bd7b6bbc1ed0f60c4c61353276feca03b4ff67decba1c2397d46afe0a774c", checked := Tryd.checked }
namespace Rows
def none {H : Type} : Left H := { results := [], args := [] }

/- WHAT THE LISTED PACKAGE-LEVEL VARIABLES READ AS WHEN THE CALL BEGINS. Each datum BY PROGRAM (the guide's laid-datum.mjs) off the statement by which the dump's own 'gosem.cut.vars' lays the variable. In a bare row this is a premise. The card (YtggdfgdnpicepaaDoorCards.lean) ties it to the program's text. -/
def laid_math_bits_deBruijn32tab {H : Type} : DataW H := .agg [.lit (.int .u8 0), .lit (.int .u8 1), .lit (.int .u8 28), .lit (.int .u8 2), .lit (.int .u8 29), .lit (.int .u8 14), .lit (.int .u8 24), .lit (.int .u8 3), .lit (.int .u8 30), .lit (.int .u8 22), .lit (.int .u8 20), .lit (.int .u8 15), .lit (.int .u8 25), .lit (.int .u8 17), .lit (.int .u8 4), .lit (.int .u8 8), .lit (.int .u8 31), .lit (.int .u8 27), .lit (.int .u8 13), .lit (.int .u8 23), .lit (.int .u8 21), .lit (.int .u8 19), .lit (.int .u8 16), .lit (.int .u8 7), .lit (.int .u8 26), .lit (.int .u8 12), .lit (.int .u8 18), .lit (.int .u8 6), .lit (.int .u8 11), .lit (.int .u8 5), .lit (.int .u8 10), .lit (.int .u8 9)]
def laid_math_bits_deBruijn64tab {H : Type} : DataW H := .agg [.lit (.int .u8 0), .lit (.int .u8 1), .lit (.int .u8 56), .lit (.int .u8 2), .lit (.int .u8 57), .lit (.int .u8 49), .lit (.int .u8 28), .lit (.int .u8 3), .lit (.int .u8 61), .lit (.int .u8 58), .lit (.int .u8 42), .lit (.int .u8 50), .lit (.int .u8 38), .lit (.int .u8 29), .lit (.int .u8 17), .lit (.int .u8 4), .lit (.int .u8 62), .lit (.int .u8 47), .lit (.int .u8 59), .lit (.int .u8 36), .lit (.int .u8 45), .lit (.int .u8 43), .lit (.int .u8 51), .lit (.int .u8 22), .lit (.int .u8 53), .lit (.int .u8 39), .lit (.int .u8 33), .lit (.int .u8 30), .lit (.int .u8 24), .lit (.int .u8 18), .lit (.int .u8 12), .lit (.int .u8 5), .lit (.int .u8 63), .lit (.int .u8 55), .lit (.int .u8 48), .lit (.int .u8 27), .lit (.int .u8 60), .lit (.int .u8 41), .lit (.int .u8 37), .lit (.int .u8 16), .lit (.int .u8 46), .lit (.int .u8 35), .lit (.int .u8 44), .lit (.int .u8 21), .lit (.int .u8 52), .lit (.int .u8 32), .lit (.int .u8 23), .lit (.int .u8 11), .lit (.int .u8 54), .lit (.int .u8 26), .lit (.int .u8 40), .lit (.int .u8 15), .lit (.int .u8 34), .lit (.int .u8 20), .lit (.int .u8 31), .lit (.int .u8 10), .lit (.int .u8 25), .lit (.int .u8 14), .lit (.int .u8 19), .lit (.int .u8 9), .lit (.int .u8 13), .lit (.int .u8 8), .lit (.int .u8 7), .lit (.int .u8 6)]
def laid_internal_strconv_uint64pow10 {H : Type} : DataW H := .agg [.lit (.int .u64 1), .lit (.int .u64 10), .lit (.int .u64 100), .lit (.int .u64 1000), .lit (.int .u64 10000), .lit (.int .u64 100000), .lit (.int .u64 1000000), .lit (.int .u64 10000000), .lit (.int .u64 100000000), .lit (.int .u64 1000000000), .lit (.int .u64 10000000000), .lit (.int .u64 100000000000), .lit (.int .u64 1000000000000), .lit (.int .u64 10000000000000), .lit (.int .u64 100000000000000), .lit (.int .u64 1000000000000000), .lit (.int .u64 10000000000000000), .lit (.int .u64 100000000000000000), .lit (.int .u64 1000000000000000000), .lit (.int .u64 10000000000000000000)]
def laid_analemma_report_words {H : Type} : DataW H := .agg [.agg [.lit (.int .i64 1), .lit (.string [115, 97, 118, 101])], .agg [.lit (.int .i64 2), .lit (.string [97, 116])], .agg [.lit (.int .i64 4), .lit (.string [111, 102, 102])], .agg [.lit (.int .i64 8), .lit (.string [102, 111, 114, 109, 97, 116])], .agg [.lit (.int .i64 16), .lit (.string [117, 110, 116, 105, 108])]]
def laid_unicode_utf8_acceptRanges {H : Type} : DataW H := .agg [.agg [.lit (.int .u8 128), .lit (.int .u8 191)], .agg [.lit (.int .u8 160), .lit (.int .u8 191)], .agg [.lit (.int .u8 128), .lit (.int .u8 159)], .agg [.lit (.int .u8 144), .lit (.int .u8 191)], .agg [.lit (.int .u8 128), .lit (.int .u8 143)], .agg [.lit (.int .u8 0), .lit (.int .u8 0)], .agg [.lit (.int .u8 0), .lit (.int .u8 0)], .agg [.lit (.int .u8 0), .lit (.int .u8 0)], .agg [.lit (.int .u8 0), .lit (.int .u8 0)], .agg [.lit (.int .u8 0), .lit (.int .u8 0)], .agg [.lit (.int .u8 0), .lit (.int .u8 0)], .agg [.lit (.int .u8 0), .lit (.int .u8 0)], .agg [.lit (.int .u8 0), .lit (.int .u8 0)], .agg [.lit (.int .u8 0), .lit (.int .u8 0)], .agg [.lit (.int .u8 0), .lit (.int .u8 0)], .agg [.lit (.int .u8 0), .lit (.int .u8 0)]]
def laid_analemma_word_lines {H : Type} : DataW H := .agg [.lit (.string [114, 117, 108, 101]), .lit (.string [122, 111, 110, 101]), .lit (.string [108, 105, 110, 107]), .lit (.string [115, 104, 105, 102, 116])]
def laid_analemma_word_months {H : Type} : DataW H := .agg [.lit (.string [106, 97, 110, 117, 97, 114, 121]), .lit (.string [102, 101, 98, 114, 117, 97, 114, 121]), .lit (.string [109, 97, 114, 99, 104]), .lit (.string [97, 112, 114, 105, 108]), .lit (.string [109, 97, 121]), .lit (.string [106, 117, 110, 101]), .lit (.string [106, 117, 108, 121]), .lit (.string [97, 117, 103, 117, 115, 116]), .lit (.string [115, 101, 112, 116, 101, 109, 98, 101, 114]), .lit (.string [111, 99, 116, 111, 98, 101, 114]), .lit (.string [110, 111, 118, 101, 109, 98, 101, 114]), .lit (.string [100, 101, 99, 101, 109, 98, 101, 114])]
def laid_analemma_word_weeks {H : Type} : DataW H := .agg [.lit (.string [115, 117, 110, 100, 97, 121]), .lit (.string [109, 111, 110, 100, 97, 121]), .lit (.string [116, 117, 101, 115, 100, 97, 121]), .lit (.string [119, 101, 100, 110, 101, 115, 100, 97, 121]), .lit (.string [116, 104, 117, 114, 115, 100, 97, 121]), .lit (.string [102, 114, 105, 100, 97, 121]), .lit (.string [115, 97, 116, 117, 114, 100, 97, 121])]
def laid_analemma_word_years {H : Type} : DataW H := .agg [.lit (.string [111, 110, 108, 121]), .lit (.string [109, 97, 120, 105, 109, 117, 109])]
/-- One of Go's own tables, pinned by name: the form's constant. -/
def laid_unicode_CaseRanges : DataW Unit := Go.Pinned.caseRanges
/-- One of Go's own tables, pinned by name: the form's constant. -/
def laid_unicode_utf8_first : DataW Unit := Go.Pinned.utf8First

/-- 'analemmalaw32.ReportCompares': WHATEVER THE INPUT: true; the input reads as it did. -/
def reportComparesSpec : ChangeSpec := { name := "reportCompares", fn := fun _ => fun
  | [d1, d2] => { results := [.lit (.bool true)], args := [d1, d2] }
  | _ => none }
def reportComparesRow : OpenClaim := { program := "ytggdfgdnpicepaadoor", sum := "614bd7b6bbc1ed0f60c4c61353276feca03b4ff67decba1c2397d46afe0a774c", func := "analemma/analemmalaw32.ReportCompares", spec := "reportCompares", inPlace := ["internal/abi.NoEscape"], unfollowed := true, recurses := true, named := ["analemma/report.words", "internal/strconv.uint64pow10", "math/bits.deBruijn32tab", "math/bits.deBruijn64tab"], apart := false, laid := [("math/bits.deBruijn32tab", laid_math_bits_deBruijn32tab), ("math/bits.deBruijn64tab", laid_math_bits_deBruijn64tab), ("internal/strconv.uint64pow10", laid_internal_strconv_uint64pow10), ("analemma/report.words", laid_analemma_report_words)] }
def ReportComparesSaid : Prop := reportComparesRow.holds Tryd.pinned (OpenSpec.ofChange reportComparesSpec)

/-- ITS FALSE NEIGHBOUR: 'it returns false'. Refute it at one input. -/
def reportComparesWrong : ChangeSpec := { name := "reportCompares", fn := fun _ => fun
  | [d1, d2] => { results := [.lit (.bool false)], args := [d1, d2] }
  | _ => none }
def ReportComparesWrongFalsely : Prop := reportComparesRow.holds Tryd.pinned (OpenSpec.ofChange reportComparesWrong)

/-- 'analemmalaw32.ReportTexts': WHATEVER THE INPUT: true; the input reads as it did. -/
def reportTextsSpec : ChangeSpec := { name := "reportTexts", fn := fun _ => fun
  | [d] => { results := [.lit (.bool true)], args := [d] }
  | _ => none }
def reportTextsRow : OpenClaim := { program := "ytggdfgdnpicepaadoor", sum := "614bd7b6bbc1ed0f60c4c61353276feca03b4ff67decba1c2397d46afe0a774c", func := "analemma/analemmalaw32.ReportTexts", spec := "reportTexts", inPlace := ["internal/abi.NoEscape"], unfollowed := true, recurses := true, named := ["analemma/report.words", "internal/strconv.uint64pow10", "math/bits.deBruijn32tab", "math/bits.deBruijn64tab"], apart := false, laid := [("math/bits.deBruijn32tab", laid_math_bits_deBruijn32tab), ("math/bits.deBruijn64tab", laid_math_bits_deBruijn64tab), ("internal/strconv.uint64pow10", laid_internal_strconv_uint64pow10), ("analemma/report.words", laid_analemma_report_words)] }
def ReportTextsSaid : Prop := reportTextsRow.holds Tryd.pinned (OpenSpec.ofChange reportTextsSpec)

/-- ITS FALSE NEIGHBOUR: 'it returns false'. Refute it at one input. -/
def reportTextsWrong : ChangeSpec := { name := "reportTexts", fn := fun _ => fun
  | [d] => { results := [.lit (.bool false)], args := [d] }
  | _ => none }
def ReportTextsWrongFalsely : Prop := reportTextsRow.holds Tryd.pinned (OpenSpec.ofChange reportTextsWrong)

/-- 'analemmalaw32.ReportAgain': WHATEVER THE INPUT: true; the input reads as it did. -/
def reportAgainSpec : ChangeSpec := { name := "reportAgain", fn := fun _ => fun
  | [d1, d2, d3, d4] => { results := [.lit (.bool true)], args := [d1, d2, d3, d4] }
  | _ => none }
def reportAgainRow : OpenClaim := { program := "ytggdfgdnpicepaadoor", sum := "614bd7b6bbc1ed0f60c4c61353276feca03b4ff67decba1c2397d46afe0a774c", func := "analemma/analemmalaw32.ReportAgain", spec := "reportAgain", inPlace := ["internal/abi.NoEscape"], unfollowed := true, recurses := true, named := ["analemma/report.words", "internal/strconv.uint64pow10", "math/bits.deBruijn32tab", "math/bits.deBruijn64tab"], apart := false, laid := [("math/bits.deBruijn32tab", laid_math_bits_deBruijn32tab), ("math/bits.deBruijn64tab", laid_math_bits_deBruijn64tab), ("internal/strconv.uint64pow10", laid_internal_strconv_uint64pow10), ("analemma/report.words", laid_analemma_report_words)] }
def ReportAgainSaid : Prop := reportAgainRow.holds Tryd.pinned (OpenSpec.ofChange reportAgainSpec)

/-- ITS FALSE NEIGHBOUR: 'it returns false'. Refute it at one input. -/
def reportAgainWrong : ChangeSpec := { name := "reportAgain", fn := fun _ => fun
  | [d1, d2, d3, d4] => { results := [.lit (.bool false)], args := [d1, d2, d3, d4] }
  | _ => none }
def ReportAgainWrongFalsely : Prop := reportAgainRow.holds Tryd.pinned (OpenSpec.ofChange reportAgainWrong)

/-- 'analemmalaw32.ReportShapes': WHATEVER THE INPUT: true; the input reads as it did. -/
def reportShapesSpec : ChangeSpec := { name := "reportShapes", fn := fun _ => fun
  | [d1, d2, d3] => { results := [.lit (.bool true)], args := [d1, d2, d3] }
  | _ => none }
def reportShapesRow : OpenClaim := { program := "ytggdfgdnpicepaadoor", sum := "614bd7b6bbc1ed0f60c4c61353276feca03b4ff67decba1c2397d46afe0a774c", func := "analemma/analemmalaw32.ReportShapes", spec := "reportShapes", inPlace := ["internal/abi.NoEscape"], unfollowed := true, recurses := true, named := ["analemma/report.words", "internal/strconv.uint64pow10", "math/bits.deBruijn32tab", "math/bits.deBruijn64tab"], apart := false, laid := [("math/bits.deBruijn32tab", laid_math_bits_deBruijn32tab), ("math/bits.deBruijn64tab", laid_math_bits_deBruijn64tab), ("internal/strconv.uint64pow10", laid_internal_strconv_uint64pow10), ("analemma/report.words", laid_analemma_report_words)] }
def ReportShapesSaid : Prop := reportShapesRow.holds Tryd.pinned (OpenSpec.ofChange reportShapesSpec)

/-- ITS FALSE NEIGHBOUR: 'it returns false'. Refute it at one input. -/
def reportShapesWrong : ChangeSpec := { name := "reportShapes", fn := fun _ => fun
  | [d1, d2, d3] => { results := [.lit (.bool false)], args := [d1, d2, d3] }
  | _ => none }
def ReportShapesWrongFalsely : Prop := reportShapesRow.holds Tryd.pinned (OpenSpec.ofChange reportShapesWrong)

/-- 'analemmalaw32.ReportLines': WHATEVER THE INPUT: true; the input reads as it did. -/
def reportLinesSpec : ChangeSpec := { name := "reportLines", fn := fun _ => fun
  | [d1, d2, d3] => { results := [.lit (.bool true)], args := [d1, d2, d3] }
  | _ => none }
def reportLinesRow : OpenClaim := { program := "ytggdfgdnpicepaadoor", sum := "614bd7b6bbc1ed0f60c4c61353276feca03b4ff67decba1c2397d46afe0a774c", func := "analemma/analemmalaw32.ReportLines", spec := "reportLines", inPlace := ["internal/abi.NoEscape", "internal/bytealg.CountString", "internal/bytealg.IndexByteString", "internal/bytealg.IndexString"], unfollowed := true, recurses := true, named := ["analemma/report.words", "internal/strconv.uint64pow10", "math/bits.deBruijn32tab", "math/bits.deBruijn64tab", "internal/bytealg.MaxLen"], apart := false, laid := [("math/bits.deBruijn32tab", laid_math_bits_deBruijn32tab), ("math/bits.deBruijn64tab", laid_math_bits_deBruijn64tab), ("internal/strconv.uint64pow10", laid_internal_strconv_uint64pow10), ("analemma/report.words", laid_analemma_report_words)] }
def ReportLinesSaid : Prop := reportLinesRow.holds Tryd.pinned (OpenSpec.ofChange reportLinesSpec)

/-- ITS FALSE NEIGHBOUR: 'it returns false'. Refute it at one input. -/
def reportLinesWrong : ChangeSpec := { name := "reportLines", fn := fun _ => fun
  | [d1, d2, d3] => { results := [.lit (.bool false)], args := [d1, d2, d3] }
  | _ => none }
def ReportLinesWrongFalsely : Prop := reportLinesRow.holds Tryd.pinned (OpenSpec.ofChange reportLinesWrong)

/-- 'analemmalaw08.WordFinds': WHATEVER THE INPUT: true; the input reads as it did. -/
def wordFindsSpec : ChangeSpec := { name := "wordFinds", fn := fun _ => fun
  | [d] => { results := [.lit (.bool true)], args := [d] }
  | _ => none }
def wordFindsRow : OpenClaim := { program := "ytggdfgdnpicepaadoor", sum := "614bd7b6bbc1ed0f60c4c61353276feca03b4ff67decba1c2397d46afe0a774c", func := "analemma/analemmalaw08.WordFinds", spec := "wordFinds", inPlace := ["internal/abi.NoEscape", "internal/bytealg.MakeNoZero"], unfollowed := true, recurses := true, named := ["analemma/word.lines", "analemma/word.months", "analemma/word.weeks", "analemma/word.years", "unicode/utf8.first", "unicode/utf8.acceptRanges", "unicode.CaseRanges"], apart := false, laid := [("unicode/utf8.acceptRanges", laid_unicode_utf8_acceptRanges), ("analemma/word.lines", laid_analemma_word_lines), ("analemma/word.months", laid_analemma_word_months), ("analemma/word.weeks", laid_analemma_word_weeks), ("analemma/word.years", laid_analemma_word_years), ("unicode.CaseRanges", laid_unicode_CaseRanges), ("unicode/utf8.first", laid_unicode_utf8_first)] }
def WordFindsSaid : Prop := wordFindsRow.holds Tryd.pinned (OpenSpec.ofChange wordFindsSpec)

/-- ITS FALSE NEIGHBOUR: 'it returns false'. Refute it at one input. -/
def wordFindsWrong : ChangeSpec := { name := "wordFinds", fn := fun _ => fun
  | [d] => { results := [.lit (.bool false)], args := [d] }
  | _ => none }
def WordFindsWrongFalsely : Prop := wordFindsRow.holds Tryd.pinned (OpenSpec.ofChange wordFindsWrong)

/-- 'analemmalaw08.WordTexts': WHATEVER THE INPUT: true; the input reads as it did. -/
def wordTextsSpec : ChangeSpec := { name := "wordTexts", fn := fun _ => fun
  | [d] => { results := [.lit (.bool true)], args := [d] }
  | _ => none }
def wordTextsRow : OpenClaim := { program := "ytggdfgdnpicepaadoor", sum := "614bd7b6bbc1ed0f60c4c61353276feca03b4ff67decba1c2397d46afe0a774c", func := "analemma/analemmalaw08.WordTexts", spec := "wordTexts", inPlace := ["internal/abi.NoEscape", "internal/bytealg.MakeNoZero"], unfollowed := true, recurses := true, named := ["analemma/word.months", "unicode/utf8.first", "unicode/utf8.acceptRanges", "unicode.CaseRanges", "analemma/word.weeks", "analemma/word.lines", "analemma/word.years"], apart := false, laid := [("unicode/utf8.acceptRanges", laid_unicode_utf8_acceptRanges), ("analemma/word.lines", laid_analemma_word_lines), ("analemma/word.months", laid_analemma_word_months), ("analemma/word.weeks", laid_analemma_word_weeks), ("analemma/word.years", laid_analemma_word_years), ("unicode.CaseRanges", laid_unicode_CaseRanges), ("unicode/utf8.first", laid_unicode_utf8_first)] }
def WordTextsSaid : Prop := wordTextsRow.holds Tryd.pinned (OpenSpec.ofChange wordTextsSpec)

/-- ITS FALSE NEIGHBOUR: 'it returns false'. Refute it at one input. -/
def wordTextsWrong : ChangeSpec := { name := "wordTexts", fn := fun _ => fun
  | [d] => { results := [.lit (.bool false)], args := [d] }
  | _ => none }
def WordTextsWrongFalsely : Prop := wordTextsRow.holds Tryd.pinned (OpenSpec.ofChange wordTextsWrong)

/-- 'analemmalaw08.WordBack': WHATEVER THE INPUT: true; the input reads as it did. -/
def wordBackSpec : ChangeSpec := { name := "wordBack", fn := fun _ => fun
  | [d1, d2, d3, d4] => { results := [.lit (.bool true)], args := [d1, d2, d3, d4] }
  | _ => none }
def wordBackRow : OpenClaim := { program := "ytggdfgdnpicepaadoor", sum := "614bd7b6bbc1ed0f60c4c61353276feca03b4ff67decba1c2397d46afe0a774c", func := "analemma/analemmalaw08.WordBack", spec := "wordBack", inPlace := ["internal/abi.NoEscape", "internal/bytealg.MakeNoZero"], unfollowed := true, recurses := true, named := ["analemma/word.lines", "analemma/word.months", "analemma/word.weeks", "analemma/word.years", "unicode/utf8.first", "unicode/utf8.acceptRanges", "unicode.CaseRanges"], apart := false, laid := [("unicode/utf8.acceptRanges", laid_unicode_utf8_acceptRanges), ("analemma/word.lines", laid_analemma_word_lines), ("analemma/word.months", laid_analemma_word_months), ("analemma/word.weeks", laid_analemma_word_weeks), ("analemma/word.years", laid_analemma_word_years), ("unicode.CaseRanges", laid_unicode_CaseRanges), ("unicode/utf8.first", laid_unicode_utf8_first)] }
def WordBackSaid : Prop := wordBackRow.holds Tryd.pinned (OpenSpec.ofChange wordBackSpec)

/-- ITS FALSE NEIGHBOUR: 'it returns false'. Refute it at one input. -/
def wordBackWrong : ChangeSpec := { name := "wordBack", fn := fun _ => fun
  | [d1, d2, d3, d4] => { results := [.lit (.bool false)], args := [d1, d2, d3, d4] }
  | _ => none }
def WordBackWrongFalsely : Prop := wordBackRow.holds Tryd.pinned (OpenSpec.ofChange wordBackWrong)

/-- 'analemmalaw08.WordShort': WHATEVER THE INPUT: true; the input reads as it did. -/
def wordShortSpec : ChangeSpec := { name := "wordShort", fn := fun _ => fun
  | [d1, d2] => { results := [.lit (.bool true)], args := [d1, d2] }
  | _ => none }
def wordShortRow : OpenClaim := { program := "ytggdfgdnpicepaadoor", sum := "614bd7b6bbc1ed0f60c4c61353276feca03b4ff67decba1c2397d46afe0a774c", func := "analemma/analemmalaw08.WordShort", spec := "wordShort", inPlace := ["internal/abi.NoEscape", "internal/bytealg.MakeNoZero"], unfollowed := true, recurses := true, named := ["analemma/word.months", "unicode/utf8.first", "unicode/utf8.acceptRanges", "unicode.CaseRanges", "analemma/word.weeks", "analemma/word.lines", "analemma/word.years"], apart := false, laid := [("unicode/utf8.acceptRanges", laid_unicode_utf8_acceptRanges), ("analemma/word.lines", laid_analemma_word_lines), ("analemma/word.months", laid_analemma_word_months), ("analemma/word.weeks", laid_analemma_word_weeks), ("analemma/word.years", laid_analemma_word_years), ("unicode.CaseRanges", laid_unicode_CaseRanges), ("unicode/utf8.first", laid_unicode_utf8_first)] }
def WordShortSaid : Prop := wordShortRow.holds Tryd.pinned (OpenSpec.ofChange wordShortSpec)

/-- ITS FALSE NEIGHBOUR: 'it returns false'. Refute it at one input. -/
def wordShortWrong : ChangeSpec := { name := "wordShort", fn := fun _ => fun
  | [d1, d2] => { results := [.lit (.bool false)], args := [d1, d2] }
  | _ => none }
def WordShortWrongFalsely : Prop := wordShortRow.holds Tryd.pinned (OpenSpec.ofChange wordShortWrong)

/-- 'analemmalaw08.WordMore': WHATEVER THE INPUT: true; the input reads as it did. -/
def wordMoreSpec : ChangeSpec := { name := "wordMore", fn := fun _ => fun
  | [d1, d2, d3, d4] => { results := [.lit (.bool true)], args := [d1, d2, d3, d4] }
  | _ => none }
def wordMoreRow : OpenClaim := { program := "ytggdfgdnpicepaadoor", sum := "614bd7b6bbc1ed0f60c4c61353276feca03b4ff67decba1c2397d46afe0a774c", func := "analemma/analemmalaw08.WordMore", spec := "wordMore", inPlace := ["internal/abi.NoEscape", "internal/bytealg.MakeNoZero"], unfollowed := true, recurses := true, named := ["analemma/word.lines", "analemma/word.months", "analemma/word.weeks", "analemma/word.years", "unicode/utf8.first", "unicode/utf8.acceptRanges", "unicode.CaseRanges"], apart := false, laid := [("unicode/utf8.acceptRanges", laid_unicode_utf8_acceptRanges), ("analemma/word.lines", laid_analemma_word_lines), ("analemma/word.months", laid_analemma_word_months), ("analemma/word.weeks", laid_analemma_word_weeks), ("analemma/word.years", laid_analemma_word_years), ("unicode.CaseRanges", laid_unicode_CaseRanges), ("unicode/utf8.first", laid_unicode_utf8_first)] }
def WordMoreSaid : Prop := wordMoreRow.holds Tryd.pinned (OpenSpec.ofChange wordMoreSpec)

/-- ITS FALSE NEIGHBOUR: 'it returns false'. Refute it at one input. -/
def wordMoreWrong : ChangeSpec := { name := "wordMore", fn := fun _ => fun
  | [d1, d2, d3, d4] => { results := [.lit (.bool false)], args := [d1, d2, d3, d4] }
  | _ => none }
def WordMoreWrongFalsely : Prop := wordMoreRow.holds Tryd.pinned (OpenSpec.ofChange wordMoreWrong)

/-- 'analemmalaw08.WordOne': WHATEVER THE INPUT: true; the input reads as it did. -/
def wordOneSpec : ChangeSpec := { name := "wordOne", fn := fun _ => fun
  | [d] => { results := [.lit (.bool true)], args := [d] }
  | _ => none }
def wordOneRow : OpenClaim := { program := "ytggdfgdnpicepaadoor", sum := "614bd7b6bbc1ed0f60c4c61353276feca03b4ff67decba1c2397d46afe0a774c", func := "analemma/analemmalaw08.WordOne", spec := "wordOne", inPlace := ["internal/abi.NoEscape", "internal/bytealg.MakeNoZero"], unfollowed := true, recurses := true, named := ["analemma/word.lines", "analemma/word.months", "analemma/word.weeks", "analemma/word.years", "unicode/utf8.first", "unicode/utf8.acceptRanges", "unicode.CaseRanges"], apart := false, laid := [("unicode/utf8.acceptRanges", laid_unicode_utf8_acceptRanges), ("analemma/word.lines", laid_analemma_word_lines), ("analemma/word.months", laid_analemma_word_months), ("analemma/word.weeks", laid_analemma_word_weeks), ("analemma/word.years", laid_analemma_word_years), ("unicode.CaseRanges", laid_unicode_CaseRanges), ("unicode/utf8.first", laid_unicode_utf8_first)] }
def WordOneSaid : Prop := wordOneRow.holds Tryd.pinned (OpenSpec.ofChange wordOneSpec)

/-- ITS FALSE NEIGHBOUR: 'it returns false'. Refute it at one input. -/
def wordOneWrong : ChangeSpec := { name := "wordOne", fn := fun _ => fun
  | [d] => { results := [.lit (.bool false)], args := [d] }
  | _ => none }
def WordOneWrongFalsely : Prop := wordOneRow.holds Tryd.pinned (OpenSpec.ofChange wordOneWrong)

/-- 'analemmalaw08.WordNumbers': WHATEVER THE INPUT: true; the input reads as it did. -/
def wordNumbersSpec : ChangeSpec := { name := "wordNumbers", fn := fun _ => fun
  | [d] => { results := [.lit (.bool true)], args := [d] }
  | _ => none }
def wordNumbersRow : OpenClaim := { program := "ytggdfgdnpicepaadoor", sum := "614bd7b6bbc1ed0f60c4c61353276feca03b4ff67decba1c2397d46afe0a774c", func := "analemma/analemmalaw08.WordNumbers", spec := "wordNumbers", inPlace := ["internal/abi.NoEscape", "internal/bytealg.MakeNoZero"], unfollowed := true, recurses := true, named := ["analemma/word.months", "unicode/utf8.first", "unicode/utf8.acceptRanges", "unicode.CaseRanges", "analemma/word.weeks", "analemma/word.lines", "analemma/word.years"], apart := false, laid := [("unicode/utf8.acceptRanges", laid_unicode_utf8_acceptRanges), ("analemma/word.lines", laid_analemma_word_lines), ("analemma/word.months", laid_analemma_word_months), ("analemma/word.weeks", laid_analemma_word_weeks), ("analemma/word.years", laid_analemma_word_years), ("unicode.CaseRanges", laid_unicode_CaseRanges), ("unicode/utf8.first", laid_unicode_utf8_first)] }
def WordNumbersSaid : Prop := wordNumbersRow.holds Tryd.pinned (OpenSpec.ofChange wordNumbersSpec)

/-- ITS FALSE NEIGHBOUR: 'it returns false'. Refute it at one input. -/
def wordNumbersWrong : ChangeSpec := { name := "wordNumbers", fn := fun _ => fun
  | [d] => { results := [.lit (.bool false)], args := [d] }
  | _ => none }
def WordNumbersWrongFalsely : Prop := wordNumbersRow.holds Tryd.pinned (OpenSpec.ofChange wordNumbersWrong)

/- THE SECOND FORM. 'bulk': how many values and letters a reading holds, each counted each time it is reached (what is shared counts as often as it is met; a slice's spare places count too). A statement '..UptoSaid' is the law's where the arguments, and the package variables that the reading takes, are together of bulk at most 1048576: NARROWER than '..Said'. Prove '..Said' where nothing that the law and all that it calls make is longer than what came in: it says more and counts as full. Else prove '..UptoSaid'. A law counts once. -/
mutual
def uptoBulk {H : Type} : DataW H → Nat
  | .lit (.string bytes) => bytes.length + 1
  | .lit _ => 1
  | .nil => 1
  | .ptr d => uptoBulk d + 1
  | .slice elems spare => uptoBulkAll elems + uptoBulkAll spare + 1
  | .agg parts => uptoBulkAll parts + 1
  | .iface _ d => uptoBulk d + 1
  | .map entries => uptoBulkEntries entries + 1
  | .held _ => 1
def uptoBulkAll {H : Type} : List (DataW H) → Nat
  | [] => 0
  | d :: r => uptoBulk d + uptoBulkAll r
def uptoBulkEntries {H : Type} : List (Lit × DataW H) → Nat
  | [] => 0
  | x :: r => uptoBulkEntry x + uptoBulkEntries r
def uptoBulkEntry {H : Type} : Lit × DataW H → Nat
  | (.string bytes, d) => bytes.length + uptoBulk d + 1
  | (_, d) => uptoBulk d + 1
 end
def uptoSmall : (H : Type) → List (DataW H) → Bool := fun _ ds => decide (uptoBulkAll ds ≤ 1048576)
def OpenSpec.upto (s : _root_.Go.ChangeSpec) : _root_.Go.OpenSpec := { _root_.Go.OpenSpec.ofChange s with cond := some uptoSmall }

/-- 'analemmalaw32.ReportCompares', WHERE WHAT IT READS IS OF BULK AT MOST 1048576: true; the input reads as it did. -/
def reportComparesUptoRow : OpenClaim := { program := "ytggdfgdnpicepaadoor", sum := "614bd7b6bbc1ed0f60c4c61353276feca03b4ff67decba1c2397d46afe0a774c", func := "analemma/analemmalaw32.ReportCompares", spec := "reportCompares", inPlace := ["internal/abi.NoEscape"], unfollowed := true, recurses := true, named := ["analemma/report.words", "internal/strconv.uint64pow10", "math/bits.deBruijn32tab", "math/bits.deBruijn64tab"], apart := false, laid := [("math/bits.deBruijn32tab", laid_math_bits_deBruijn32tab), ("math/bits.deBruijn64tab", laid_math_bits_deBruijn64tab), ("internal/strconv.uint64pow10", laid_internal_strconv_uint64pow10), ("analemma/report.words", laid_analemma_report_words)], narrowed := true }
def ReportComparesUptoSaid : Prop := reportComparesUptoRow.holds Tryd.pinned (OpenSpec.upto reportComparesSpec)

/-- 'analemmalaw32.ReportTexts', WHERE WHAT IT READS IS OF BULK AT MOST 1048576: true; the input reads as it did. -/
def reportTextsUptoRow : OpenClaim := { program := "ytggdfgdnpicepaadoor", sum := "614bd7b6bbc1ed0f60c4c61353276feca03b4ff67decba1c2397d46afe0a774c", func := "analemma/analemmalaw32.ReportTexts", spec := "reportTexts", inPlace := ["internal/abi.NoEscape"], unfollowed := true, recurses := true, named := ["analemma/report.words", "internal/strconv.uint64pow10", "math/bits.deBruijn32tab", "math/bits.deBruijn64tab"], apart := false, laid := [("math/bits.deBruijn32tab", laid_math_bits_deBruijn32tab), ("math/bits.deBruijn64tab", laid_math_bits_deBruijn64tab), ("internal/strconv.uint64pow10", laid_internal_strconv_uint64pow10), ("analemma/report.words", laid_analemma_report_words)], narrowed := true }
def ReportTextsUptoSaid : Prop := reportTextsUptoRow.holds Tryd.pinned (OpenSpec.upto reportTextsSpec)

/-- 'analemmalaw32.ReportAgain', WHERE WHAT IT READS IS OF BULK AT MOST 1048576: true; the input reads as it did. -/
def reportAgainUptoRow : OpenClaim := { program := "ytggdfgdnpicepaadoor", sum := "614bd7b6bbc1ed0f60c4c61353276feca03b4ff67decba1c2397d46afe0a774c", func := "analemma/analemmalaw32.ReportAgain", spec := "reportAgain", inPlace := ["internal/abi.NoEscape"], unfollowed := true, recurses := true, named := ["analemma/report.words", "internal/strconv.uint64pow10", "math/bits.deBruijn32tab", "math/bits.deBruijn64tab"], apart := false, laid := [("math/bits.deBruijn32tab", laid_math_bits_deBruijn32tab), ("math/bits.deBruijn64tab", laid_math_bits_deBruijn64tab), ("internal/strconv.uint64pow10", laid_internal_strconv_uint64pow10), ("analemma/report.words", laid_analemma_report_words)], narrowed := true }
def ReportAgainUptoSaid : Prop := reportAgainUptoRow.holds Tryd.pinned (OpenSpec.upto reportAgainSpec)

/-- 'analemmalaw32.ReportShapes', WHERE WHAT IT READS IS OF BULK AT MOST 1048576: true; the input reads as it did. -/
def reportShapesUptoRow : OpenClaim := { program := "ytggdfgdnpicepaadoor", sum := "614bd7b6bbc1ed0f60c4c61353276feca03b4ff67decba1c2397d46afe0a774c", func := "analemma/analemmalaw32.ReportShapes", spec := "reportShapes", inPlace := ["internal/abi.NoEscape"], unfollowed := true, recurses := true, named := ["analemma/report.words", "internal/strconv.uint64pow10", "math/bits.deBruijn32tab", "math/bits.deBruijn64tab"], apart := false, laid := [("math/bits.deBruijn32tab", laid_math_bits_deBruijn32tab), ("math/bits.deBruijn64tab", laid_math_bits_deBruijn64tab), ("internal/strconv.uint64pow10", laid_internal_strconv_uint64pow10), ("analemma/report.words", laid_analemma_report_words)], narrowed := true }
def ReportShapesUptoSaid : Prop := reportShapesUptoRow.holds Tryd.pinned (OpenSpec.upto reportShapesSpec)

/-- 'analemmalaw32.ReportLines', WHERE WHAT IT READS IS OF BULK AT MOST 1048576: true; the input reads as it did. -/
def reportLinesUptoRow : OpenClaim := { program := "ytggdfgdnpicepaadoor", sum := "614bd7b6bbc1ed0f60c4c61353276feca03b4ff67decba1c2397d46afe0a774c", func := "analemma/analemmalaw32.ReportLines", spec := "reportLines", inPlace := ["internal/abi.NoEscape", "internal/bytealg.CountString", "internal/bytealg.IndexByteString", "internal/bytealg.IndexString"], unfollowed := true, recurses := true, named := ["analemma/report.words", "internal/strconv.uint64pow10", "math/bits.deBruijn32tab", "math/bits.deBruijn64tab", "internal/bytealg.MaxLen"], apart := false, laid := [("math/bits.deBruijn32tab", laid_math_bits_deBruijn32tab), ("math/bits.deBruijn64tab", laid_math_bits_deBruijn64tab), ("internal/strconv.uint64pow10", laid_internal_strconv_uint64pow10), ("analemma/report.words", laid_analemma_report_words)], narrowed := true }
def ReportLinesUptoSaid : Prop := reportLinesUptoRow.holds Tryd.pinned (OpenSpec.upto reportLinesSpec)

/-- 'analemmalaw08.WordFinds', WHERE WHAT IT READS IS OF BULK AT MOST 1048576: true; the input reads as it did. -/
def wordFindsUptoRow : OpenClaim := { program := "ytggdfgdnpicepaadoor", sum := "614bd7b6bbc1ed0f60c4c61353276feca03b4ff67decba1c2397d46afe0a774c", func := "analemma/analemmalaw08.WordFinds", spec := "wordFinds", inPlace := ["internal/abi.NoEscape", "internal/bytealg.MakeNoZero"], unfollowed := true, recurses := true, named := ["analemma/word.lines", "analemma/word.months", "analemma/word.weeks", "analemma/word.years", "unicode/utf8.first", "unicode/utf8.acceptRanges", "unicode.CaseRanges"], apart := false, laid := [("unicode/utf8.acceptRanges", laid_unicode_utf8_acceptRanges), ("analemma/word.lines", laid_analemma_word_lines), ("analemma/word.months", laid_analemma_word_months), ("analemma/word.weeks", laid_analemma_word_weeks), ("analemma/word.years", laid_analemma_word_years), ("unicode.CaseRanges", laid_unicode_CaseRanges), ("unicode/utf8.first", laid_unicode_utf8_first)], narrowed := true }
def WordFindsUptoSaid : Prop := wordFindsUptoRow.holds Tryd.pinned (OpenSpec.upto wordFindsSpec)

/-- 'analemmalaw08.WordTexts', WHERE WHAT IT READS IS OF BULK AT MOST 1048576: true; the input reads as it did. -/
def wordTextsUptoRow : OpenClaim := { program := "ytggdfgdnpicepaadoor", sum := "614bd7b6bbc1ed0f60c4c61353276feca03b4ff67decba1c2397d46afe0a774c", func := "analemma/analemmalaw08.WordTexts", spec := "wordTexts", inPlace := ["internal/abi.NoEscape", "internal/bytealg.MakeNoZero"], unfollowed := true, recurses := true, named := ["analemma/word.months", "unicode/utf8.first", "unicode/utf8.acceptRanges", "unicode.CaseRanges", "analemma/word.weeks", "analemma/word.lines", "analemma/word.years"], apart := false, laid := [("unicode/utf8.acceptRanges", laid_unicode_utf8_acceptRanges), ("analemma/word.lines", laid_analemma_word_lines), ("analemma/word.months", laid_analemma_word_months), ("analemma/word.weeks", laid_analemma_word_weeks), ("analemma/word.years", laid_analemma_word_years), ("unicode.CaseRanges", laid_unicode_CaseRanges), ("unicode/utf8.first", laid_unicode_utf8_first)], narrowed := true }
def WordTextsUptoSaid : Prop := wordTextsUptoRow.holds Tryd.pinned (OpenSpec.upto wordTextsSpec)

/-- 'analemmalaw08.WordBack', WHERE WHAT IT READS IS OF BULK AT MOST 1048576: true; the input reads as it did. -/
def wordBackUptoRow : OpenClaim := { program := "ytggdfgdnpicepaadoor", sum := "614bd7b6bbc1ed0f60c4c61353276feca03b4ff67decba1c2397d46afe0a774c", func := "analemma/analemmalaw08.WordBack", spec := "wordBack", inPlace := ["internal/abi.NoEscape", "internal/bytealg.MakeNoZero"], unfollowed := true, recurses := true, named := ["analemma/word.lines", "analemma/word.months", "analemma/word.weeks", "analemma/word.years", "unicode/utf8.first", "unicode/utf8.acceptRanges", "unicode.CaseRanges"], apart := false, laid := [("unicode/utf8.acceptRanges", laid_unicode_utf8_acceptRanges), ("analemma/word.lines", laid_analemma_word_lines), ("analemma/word.months", laid_analemma_word_months), ("analemma/word.weeks", laid_analemma_word_weeks), ("analemma/word.years", laid_analemma_word_years), ("unicode.CaseRanges", laid_unicode_CaseRanges), ("unicode/utf8.first", laid_unicode_utf8_first)], narrowed := true }
def WordBackUptoSaid : Prop := wordBackUptoRow.holds Tryd.pinned (OpenSpec.upto wordBackSpec)

/-- 'analemmalaw08.WordShort', WHERE WHAT IT READS IS OF BULK AT MOST 1048576: true; the input reads as it did. -/
def wordShortUptoRow : OpenClaim := { program := "ytggdfgdnpicepaadoor", sum := "614bd7b6bbc1ed0f60c4c61353276feca03b4ff67decba1c2397d46afe0a774c", func := "analemma/analemmalaw08.WordShort", spec := "wordShort", inPlace := ["internal/abi.NoEscape", "internal/bytealg.MakeNoZero"], unfollowed := true, recurses := true, named := ["analemma/word.months", "unicode/utf8.first", "unicode/utf8.acceptRanges", "unicode.CaseRanges", "analemma/word.weeks", "analemma/word.lines", "analemma/word.years"], apart := false, laid := [("unicode/utf8.acceptRanges", laid_unicode_utf8_acceptRanges), ("analemma/word.lines", laid_analemma_word_lines), ("analemma/word.months", laid_analemma_word_months), ("analemma/word.weeks", laid_analemma_word_weeks), ("analemma/word.years", laid_analemma_word_years), ("unicode.CaseRanges", laid_unicode_CaseRanges), ("unicode/utf8.first", laid_unicode_utf8_first)], narrowed := true }
def WordShortUptoSaid : Prop := wordShortUptoRow.holds Tryd.pinned (OpenSpec.upto wordShortSpec)

/-- 'analemmalaw08.WordMore', WHERE WHAT IT READS IS OF BULK AT MOST 1048576: true; the input reads as it did. -/
def wordMoreUptoRow : OpenClaim := { program := "ytggdfgdnpicepaadoor", sum := "614bd7b6bbc1ed0f60c4c61353276feca03b4ff67decba1c2397d46afe0a774c", func := "analemma/analemmalaw08.WordMore", spec := "wordMore", inPlace := ["internal/abi.NoEscape", "internal/bytealg.MakeNoZero"], unfollowed := true, recurses := true, named := ["analemma/word.lines", "analemma/word.months", "analemma/word.weeks", "analemma/word.years", "unicode/utf8.first", "unicode/utf8.acceptRanges", "unicode.CaseRanges"], apart := false, laid := [("unicode/utf8.acceptRanges", laid_unicode_utf8_acceptRanges), ("analemma/word.lines", laid_analemma_word_lines), ("analemma/word.months", laid_analemma_word_months), ("analemma/word.weeks", laid_analemma_word_weeks), ("analemma/word.years", laid_analemma_word_years), ("unicode.CaseRanges", laid_unicode_CaseRanges), ("unicode/utf8.first", laid_unicode_utf8_first)], narrowed := true }
def WordMoreUptoSaid : Prop := wordMoreUptoRow.holds Tryd.pinned (OpenSpec.upto wordMoreSpec)

/-- 'analemmalaw08.WordOne', WHERE WHAT IT READS IS OF BULK AT MOST 1048576: true; the input reads as it did. -/
def wordOneUptoRow : OpenClaim := { program := "ytggdfgdnpicepaadoor", sum := "614bd7b6bbc1ed0f60c4c61353276feca03b4ff67decba1c2397d46afe0a774c", func := "analemma/analemmalaw08.WordOne", spec := "wordOne", inPlace := ["internal/abi.NoEscape", "internal/bytealg.MakeNoZero"], unfollowed := true, recurses := true, named := ["analemma/word.lines", "analemma/word.months", "analemma/word.weeks", "analemma/word.years", "unicode/utf8.first", "unicode/utf8.acceptRanges", "unicode.CaseRanges"], apart := false, laid := [("unicode/utf8.acceptRanges", laid_unicode_utf8_acceptRanges), ("analemma/word.lines", laid_analemma_word_lines), ("analemma/word.months", laid_analemma_word_months), ("analemma/word.weeks", laid_analemma_word_weeks), ("analemma/word.years", laid_analemma_word_years), ("unicode.CaseRanges", laid_unicode_CaseRanges), ("unicode/utf8.first", laid_unicode_utf8_first)], narrowed := true }
def WordOneUptoSaid : Prop := wordOneUptoRow.holds Tryd.pinned (OpenSpec.upto wordOneSpec)

/-- 'analemmalaw08.WordNumbers', WHERE WHAT IT READS IS OF BULK AT MOST 1048576: true; the input reads as it did. -/
def wordNumbersUptoRow : OpenClaim := { program := "ytggdfgdnpicepaadoor", sum := "614bd7b6bbc1ed0f60c4c61353276feca03b4ff67decba1c2397d46afe0a774c", func := "analemma/analemmalaw08.WordNumbers", spec := "wordNumbers", inPlace := ["internal/abi.NoEscape", "internal/bytealg.MakeNoZero"], unfollowed := true, recurses := true, named := ["analemma/word.months", "unicode/utf8.first", "unicode/utf8.acceptRanges", "unicode.CaseRanges", "analemma/word.weeks", "analemma/word.lines", "analemma/word.years"], apart := false, laid := [("unicode/utf8.acceptRanges", laid_unicode_utf8_acceptRanges), ("analemma/word.lines", laid_analemma_word_lines), ("analemma/word.months", laid_analemma_word_months), ("analemma/word.weeks", laid_analemma_word_weeks), ("analemma/word.years", laid_analemma_word_years), ("unicode.CaseRanges", laid_unicode_CaseRanges), ("unicode/utf8.first", laid_unicode_utf8_first)], narrowed := true }
def WordNumbersUptoSaid : Prop := wordNumbersUptoRow.holds Tryd.pinned (OpenSpec.upto wordNumbersSpec)

end Rows
end Go.Proofs.YtggdfgdnpicepaaDoor
