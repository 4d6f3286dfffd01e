/-
  NARROWER THAN 'FOR EVERY INPUT', by the rows' own cells (each row's printed sentence says how): OffsetParses: laid · OffsetPrints: laid · OffsetBack: laid · OffsetSpoilt: laid · OffsetRefuses: laid · OffsetOrder: laid · OffsetFields: laid · ClockStrings: laid · ClockTimes: laid · ClockBack: laid · ClockReads: laid · ClockLetters: laid · ClockRefuses: laid.
  DERIVED. THE GIVEN ROWS OF THIS SEAT. 13 by the template 'for every input the law returns true; each argument reads behind the call as it read before'; 0 by the template 'total and deterministic' (their statements: YtgaacbmihcbedaaDoorTotals.lean).
  GIVEN WITH THE SEED: the statements are not yours to turn. If you find one false, say at which input.
  Laid BY PROGRAM, IN A SANDBOX (cutbox-rows.mjs): the forced cells as the released guide's own fill.sh prints them over the translation b2e77d6849067f5b… (all of the seat's roots in one cut). By AI agents, Wed Nov 11 2026. No macro, syntax, notation, axiom, sorry.
-/
import Derived.Test.YtgaacbmihcbedaaDoorChecked
import GoSem.Claim
import GoSem.ClaimJoined
import GoSem.ClaimMapViews
import Derived.JoinedTies
import Derived.KernelRfl
namespace Go.Proofs.YtgaacbmihcbedaaDoor
/- THE CELL 'sum', in the pinned program and in every row, IS THE sha256 OF THE DUMP (.gsa) THAT YtgaacbmihcbedaaDoorProg.lean LOADS. Nothing in Lean hashes anything: it is a label: what it is worth is what the hold of that sum in a sandbox is worth. -/
noncomputable def Tryd.pinned : Pinned := { name := "ytgaacbmihcbedaadoor", sum := "b2e77d6849067f5b280c88e33805ff25693fdb9771e127781b133da19932ee42", checked := Tryd.checked }
namespace Rows
def none {H : Type} : Left H := { results := [], args := [] }

/- WHAT THE LISTED PACKAGE-LEVEL VARIABLES READ AS WHEN THE CALL BEGINS. Each datum BY PROGRAM (the guide's laid-datum.mjs) off the statement by which the dump's own 'gosem.cut.vars' lays the variable. In a bare row this is a premise. The card (YtgaacbmihcbedaaDoorCards.lean) ties it to the program's text. -/
def laid_math_bits_deBruijn32tab {H : Type} : DataW H := .agg [.lit (.int .u8 0), .lit (.int .u8 1), .lit (.int .u8 28), .lit (.int .u8 2), .lit (.int .u8 29), .lit (.int .u8 14), .lit (.int .u8 24), .lit (.int .u8 3), .lit (.int .u8 30), .lit (.int .u8 22), .lit (.int .u8 20), .lit (.int .u8 15), .lit (.int .u8 25), .lit (.int .u8 17), .lit (.int .u8 4), .lit (.int .u8 8), .lit (.int .u8 31), .lit (.int .u8 27), .lit (.int .u8 13), .lit (.int .u8 23), .lit (.int .u8 21), .lit (.int .u8 19), .lit (.int .u8 16), .lit (.int .u8 7), .lit (.int .u8 26), .lit (.int .u8 12), .lit (.int .u8 18), .lit (.int .u8 6), .lit (.int .u8 11), .lit (.int .u8 5), .lit (.int .u8 10), .lit (.int .u8 9)]
def laid_math_bits_deBruijn64tab {H : Type} : DataW H := .agg [.lit (.int .u8 0), .lit (.int .u8 1), .lit (.int .u8 56), .lit (.int .u8 2), .lit (.int .u8 57), .lit (.int .u8 49), .lit (.int .u8 28), .lit (.int .u8 3), .lit (.int .u8 61), .lit (.int .u8 58), .lit (.int .u8 42), .lit (.int .u8 50), .lit (.int .u8 38), .lit (.int .u8 29), .lit (.int .u8 17), .lit (.int .u8 4), .lit (.int .u8 62), .lit (.int .u8 47), .lit (.int .u8 59), .lit (.int .u8 36), .lit (.int .u8 45), .lit (.int .u8 43), .lit (.int .u8 51), .lit (.int .u8 22), .lit (.int .u8 53), .lit (.int .u8 39), .lit (.int .u8 33), .lit (.int .u8 30), .lit (.int .u8 24), .lit (.int .u8 18), .lit (.int .u8 12), .lit (.int .u8 5), .lit (.int .u8 63), .lit (.int .u8 55), .lit (.int .u8 48), .lit (.int .u8 27), .lit (.int .u8 60), .lit (.int .u8 41), .lit (.int .u8 37), .lit (.int .u8 16), .lit (.int .u8 46), .lit (.int .u8 35), .lit (.int .u8 44), .lit (.int .u8 21), .lit (.int .u8 52), .lit (.int .u8 32), .lit (.int .u8 23), .lit (.int .u8 11), .lit (.int .u8 54), .lit (.int .u8 26), .lit (.int .u8 40), .lit (.int .u8 15), .lit (.int .u8 34), .lit (.int .u8 20), .lit (.int .u8 31), .lit (.int .u8 10), .lit (.int .u8 25), .lit (.int .u8 14), .lit (.int .u8 19), .lit (.int .u8 9), .lit (.int .u8 13), .lit (.int .u8 8), .lit (.int .u8 7), .lit (.int .u8 6)]
def laid_internal_strconv_uint64pow10 {H : Type} : DataW H := .agg [.lit (.int .u64 1), .lit (.int .u64 10), .lit (.int .u64 100), .lit (.int .u64 1000), .lit (.int .u64 10000), .lit (.int .u64 100000), .lit (.int .u64 1000000), .lit (.int .u64 10000000), .lit (.int .u64 100000000), .lit (.int .u64 1000000000), .lit (.int .u64 10000000000), .lit (.int .u64 100000000000), .lit (.int .u64 1000000000000), .lit (.int .u64 10000000000000), .lit (.int .u64 100000000000000), .lit (.int .u64 1000000000000000), .lit (.int .u64 10000000000000000), .lit (.int .u64 100000000000000000), .lit (.int .u64 1000000000000000000), .lit (.int .u64 10000000000000000000)]
def laid_strconv_ErrRange {H : Type} : DataW H := .iface "*errors.errorString" (.ptr (.agg [.lit (.string [118, 97, 108, 117, 101, 32, 111, 117, 116, 32, 111, 102, 32, 114, 97, 110, 103, 101])]))
def laid_strconv_ErrSyntax {H : Type} : DataW H := .iface "*errors.errorString" (.ptr (.agg [.lit (.string [105, 110, 118, 97, 108, 105, 100, 32, 115, 121, 110, 116, 97, 120])]))
def laid_analemma_offset_units {H : Type} : DataW H := .agg [.lit (.int .i64 3600), .lit (.int .i64 60), .lit (.int .i64 1)]

/-- 'analemmalaw04.OffsetParses': WHATEVER THE INPUT: true; the input reads as it did. -/
def offsetParsesSpec : ChangeSpec := { name := "offsetParses", fn := fun _ => fun
  | [d] => { results := [.lit (.bool true)], args := [d] }
  | _ => none }
def offsetParsesRow : OpenClaim := { program := "ytgaacbmihcbedaadoor", sum := "b2e77d6849067f5b280c88e33805ff25693fdb9771e127781b133da19932ee42", func := "analemma/analemmalaw04.OffsetParses", spec := "offsetParses", unfollowed := true, recurses := true, named := ["analemma/offset.units", "strconv.ErrSyntax", "strconv.ErrRange", "internal/strconv.uint64pow10", "math/bits.deBruijn32tab", "math/bits.deBruijn64tab"], apart := false, laid := [("math/bits.deBruijn32tab", laid_math_bits_deBruijn32tab), ("math/bits.deBruijn64tab", laid_math_bits_deBruijn64tab), ("internal/strconv.uint64pow10", laid_internal_strconv_uint64pow10), ("strconv.ErrRange", laid_strconv_ErrRange), ("strconv.ErrSyntax", laid_strconv_ErrSyntax), ("analemma/offset.units", laid_analemma_offset_units)] }
def OffsetParsesSaid : Prop := offsetParsesRow.holds Tryd.pinned (OpenSpec.ofChange offsetParsesSpec)

/-- ITS FALSE NEIGHBOUR: 'it returns false'. Refute it at one input. -/
def offsetParsesWrong : ChangeSpec := { name := "offsetParses", fn := fun _ => fun
  | [d] => { results := [.lit (.bool false)], args := [d] }
  | _ => none }
def OffsetParsesWrongFalsely : Prop := offsetParsesRow.holds Tryd.pinned (OpenSpec.ofChange offsetParsesWrong)

/-- 'analemmalaw04.OffsetPrints': WHATEVER THE INPUT: true; the input reads as it did. -/
def offsetPrintsSpec : ChangeSpec := { name := "offsetPrints", fn := fun _ => fun
  | [d] => { results := [.lit (.bool true)], args := [d] }
  | _ => none }
def offsetPrintsRow : OpenClaim := { program := "ytgaacbmihcbedaadoor", sum := "b2e77d6849067f5b280c88e33805ff25693fdb9771e127781b133da19932ee42", func := "analemma/analemmalaw04.OffsetPrints", spec := "offsetPrints", unfollowed := true, recurses := true, named := ["internal/strconv.uint64pow10", "math/bits.deBruijn32tab", "math/bits.deBruijn64tab", "analemma/offset.units", "strconv.ErrSyntax", "strconv.ErrRange"], apart := false, laid := [("math/bits.deBruijn32tab", laid_math_bits_deBruijn32tab), ("math/bits.deBruijn64tab", laid_math_bits_deBruijn64tab), ("internal/strconv.uint64pow10", laid_internal_strconv_uint64pow10), ("strconv.ErrRange", laid_strconv_ErrRange), ("strconv.ErrSyntax", laid_strconv_ErrSyntax), ("analemma/offset.units", laid_analemma_offset_units)] }
def OffsetPrintsSaid : Prop := offsetPrintsRow.holds Tryd.pinned (OpenSpec.ofChange offsetPrintsSpec)

/-- ITS FALSE NEIGHBOUR: 'it returns false'. Refute it at one input. -/
def offsetPrintsWrong : ChangeSpec := { name := "offsetPrints", fn := fun _ => fun
  | [d] => { results := [.lit (.bool false)], args := [d] }
  | _ => none }
def OffsetPrintsWrongFalsely : Prop := offsetPrintsRow.holds Tryd.pinned (OpenSpec.ofChange offsetPrintsWrong)

/-- 'analemmalaw04.OffsetBack': WHATEVER THE INPUT: true; the input reads as it did. -/
def offsetBackSpec : ChangeSpec := { name := "offsetBack", fn := fun _ => fun
  | [d] => { results := [.lit (.bool true)], args := [d] }
  | _ => none }
def offsetBackRow : OpenClaim := { program := "ytgaacbmihcbedaadoor", sum := "b2e77d6849067f5b280c88e33805ff25693fdb9771e127781b133da19932ee42", func := "analemma/analemmalaw04.OffsetBack", spec := "offsetBack", unfollowed := true, recurses := true, named := ["internal/strconv.uint64pow10", "math/bits.deBruijn32tab", "math/bits.deBruijn64tab", "analemma/offset.units", "strconv.ErrSyntax", "strconv.ErrRange"], apart := false, laid := [("math/bits.deBruijn32tab", laid_math_bits_deBruijn32tab), ("math/bits.deBruijn64tab", laid_math_bits_deBruijn64tab), ("internal/strconv.uint64pow10", laid_internal_strconv_uint64pow10), ("strconv.ErrRange", laid_strconv_ErrRange), ("strconv.ErrSyntax", laid_strconv_ErrSyntax), ("analemma/offset.units", laid_analemma_offset_units)] }
def OffsetBackSaid : Prop := offsetBackRow.holds Tryd.pinned (OpenSpec.ofChange offsetBackSpec)

/-- ITS FALSE NEIGHBOUR: 'it returns false'. Refute it at one input. -/
def offsetBackWrong : ChangeSpec := { name := "offsetBack", fn := fun _ => fun
  | [d] => { results := [.lit (.bool false)], args := [d] }
  | _ => none }
def OffsetBackWrongFalsely : Prop := offsetBackRow.holds Tryd.pinned (OpenSpec.ofChange offsetBackWrong)

/-- 'analemmalaw04.OffsetSpoilt': WHATEVER THE INPUT: true; the input reads as it did. -/
def offsetSpoiltSpec : ChangeSpec := { name := "offsetSpoilt", fn := fun _ => fun
  | [d1, d2, d3, d4] => { results := [.lit (.bool true)], args := [d1, d2, d3, d4] }
  | _ => none }
def offsetSpoiltRow : OpenClaim := { program := "ytgaacbmihcbedaadoor", sum := "b2e77d6849067f5b280c88e33805ff25693fdb9771e127781b133da19932ee42", func := "analemma/analemmalaw04.OffsetSpoilt", spec := "offsetSpoilt", unfollowed := true, recurses := true, named := ["internal/strconv.uint64pow10", "math/bits.deBruijn32tab", "math/bits.deBruijn64tab", "analemma/offset.units", "strconv.ErrSyntax", "strconv.ErrRange"], apart := false, laid := [("math/bits.deBruijn32tab", laid_math_bits_deBruijn32tab), ("math/bits.deBruijn64tab", laid_math_bits_deBruijn64tab), ("internal/strconv.uint64pow10", laid_internal_strconv_uint64pow10), ("strconv.ErrRange", laid_strconv_ErrRange), ("strconv.ErrSyntax", laid_strconv_ErrSyntax), ("analemma/offset.units", laid_analemma_offset_units)] }
def OffsetSpoiltSaid : Prop := offsetSpoiltRow.holds Tryd.pinned (OpenSpec.ofChange offsetSpoiltSpec)

/-- ITS FALSE NEIGHBOUR: 'it returns false'. Refute it at one input. -/
def offsetSpoiltWrong : ChangeSpec := { name := "offsetSpoilt", fn := fun _ => fun
  | [d1, d2, d3, d4] => { results := [.lit (.bool false)], args := [d1, d2, d3, d4] }
  | _ => none }
def OffsetSpoiltWrongFalsely : Prop := offsetSpoiltRow.holds Tryd.pinned (OpenSpec.ofChange offsetSpoiltWrong)

/-- 'analemmalaw04.OffsetRefuses': WHATEVER THE INPUT: true; the input reads as it did. -/
def offsetRefusesSpec : ChangeSpec := { name := "offsetRefuses", fn := fun _ => fun
  | [d1, d2, d3] => { results := [.lit (.bool true)], args := [d1, d2, d3] }
  | _ => none }
def offsetRefusesRow : OpenClaim := { program := "ytgaacbmihcbedaadoor", sum := "b2e77d6849067f5b280c88e33805ff25693fdb9771e127781b133da19932ee42", func := "analemma/analemmalaw04.OffsetRefuses", spec := "offsetRefuses", unfollowed := true, recurses := true, named := ["internal/strconv.uint64pow10", "math/bits.deBruijn32tab", "math/bits.deBruijn64tab", "analemma/offset.units", "strconv.ErrSyntax", "strconv.ErrRange"], apart := false, laid := [("math/bits.deBruijn32tab", laid_math_bits_deBruijn32tab), ("math/bits.deBruijn64tab", laid_math_bits_deBruijn64tab), ("internal/strconv.uint64pow10", laid_internal_strconv_uint64pow10), ("strconv.ErrRange", laid_strconv_ErrRange), ("strconv.ErrSyntax", laid_strconv_ErrSyntax), ("analemma/offset.units", laid_analemma_offset_units)] }
def OffsetRefusesSaid : Prop := offsetRefusesRow.holds Tryd.pinned (OpenSpec.ofChange offsetRefusesSpec)

/-- ITS FALSE NEIGHBOUR: 'it returns false'. Refute it at one input. -/
def offsetRefusesWrong : ChangeSpec := { name := "offsetRefuses", fn := fun _ => fun
  | [d1, d2, d3] => { results := [.lit (.bool false)], args := [d1, d2, d3] }
  | _ => none }
def OffsetRefusesWrongFalsely : Prop := offsetRefusesRow.holds Tryd.pinned (OpenSpec.ofChange offsetRefusesWrong)

/-- 'analemmalaw04.OffsetOrder': WHATEVER THE INPUT: true; the input reads as it did. -/
def offsetOrderSpec : ChangeSpec := { name := "offsetOrder", fn := fun _ => fun
  | [d1, d2] => { results := [.lit (.bool true)], args := [d1, d2] }
  | _ => none }
def offsetOrderRow : OpenClaim := { program := "ytgaacbmihcbedaadoor", sum := "b2e77d6849067f5b280c88e33805ff25693fdb9771e127781b133da19932ee42", func := "analemma/analemmalaw04.OffsetOrder", spec := "offsetOrder", inPlace := ["internal/bytealg.IndexByteString", "internal/bytealg.IndexString"], unfollowed := true, recurses := true, named := ["internal/strconv.uint64pow10", "math/bits.deBruijn32tab", "math/bits.deBruijn64tab", "internal/bytealg.MaxLen", "analemma/offset.units", "strconv.ErrSyntax", "strconv.ErrRange"], apart := false, laid := [("math/bits.deBruijn32tab", laid_math_bits_deBruijn32tab), ("math/bits.deBruijn64tab", laid_math_bits_deBruijn64tab), ("internal/strconv.uint64pow10", laid_internal_strconv_uint64pow10), ("strconv.ErrRange", laid_strconv_ErrRange), ("strconv.ErrSyntax", laid_strconv_ErrSyntax), ("analemma/offset.units", laid_analemma_offset_units)] }
def OffsetOrderSaid : Prop := offsetOrderRow.holds Tryd.pinned (OpenSpec.ofChange offsetOrderSpec)

/-- ITS FALSE NEIGHBOUR: 'it returns false'. Refute it at one input. -/
def offsetOrderWrong : ChangeSpec := { name := "offsetOrder", fn := fun _ => fun
  | [d1, d2] => { results := [.lit (.bool false)], args := [d1, d2] }
  | _ => none }
def OffsetOrderWrongFalsely : Prop := offsetOrderRow.holds Tryd.pinned (OpenSpec.ofChange offsetOrderWrong)

/-- 'analemmalaw04.OffsetFields': WHATEVER THE INPUT: true; the input reads as it did. -/
def offsetFieldsSpec : ChangeSpec := { name := "offsetFields", fn := fun _ => fun
  | [d1, d2, d3, d4] => { results := [.lit (.bool true)], args := [d1, d2, d3, d4] }
  | _ => none }
def offsetFieldsRow : OpenClaim := { program := "ytgaacbmihcbedaadoor", sum := "b2e77d6849067f5b280c88e33805ff25693fdb9771e127781b133da19932ee42", func := "analemma/analemmalaw04.OffsetFields", spec := "offsetFields", inPlace := ["internal/bytealg.IndexByteString", "internal/bytealg.IndexString"], unfollowed := true, recurses := true, named := ["internal/strconv.uint64pow10", "math/bits.deBruijn32tab", "math/bits.deBruijn64tab", "internal/bytealg.MaxLen", "analemma/offset.units", "strconv.ErrSyntax", "strconv.ErrRange"], apart := false, laid := [("math/bits.deBruijn32tab", laid_math_bits_deBruijn32tab), ("math/bits.deBruijn64tab", laid_math_bits_deBruijn64tab), ("internal/strconv.uint64pow10", laid_internal_strconv_uint64pow10), ("strconv.ErrRange", laid_strconv_ErrRange), ("strconv.ErrSyntax", laid_strconv_ErrSyntax), ("analemma/offset.units", laid_analemma_offset_units)] }
def OffsetFieldsSaid : Prop := offsetFieldsRow.holds Tryd.pinned (OpenSpec.ofChange offsetFieldsSpec)

/-- ITS FALSE NEIGHBOUR: 'it returns false'. Refute it at one input. -/
def offsetFieldsWrong : ChangeSpec := { name := "offsetFields", fn := fun _ => fun
  | [d1, d2, d3, d4] => { results := [.lit (.bool false)], args := [d1, d2, d3, d4] }
  | _ => none }
def OffsetFieldsWrongFalsely : Prop := offsetFieldsRow.holds Tryd.pinned (OpenSpec.ofChange offsetFieldsWrong)

/-- 'analemmalaw06.ClockStrings': WHATEVER THE INPUT: true; the input reads as it did. -/
def clockStringsSpec : ChangeSpec := { name := "clockStrings", fn := fun _ => fun
  | [d] => { results := [.lit (.bool true)], args := [d] }
  | _ => none }
def clockStringsRow : OpenClaim := { program := "ytgaacbmihcbedaadoor", sum := "b2e77d6849067f5b280c88e33805ff25693fdb9771e127781b133da19932ee42", func := "analemma/analemmalaw06.ClockStrings", spec := "clockStrings", unfollowed := true, recurses := true, named := ["analemma/offset.units", "strconv.ErrSyntax", "strconv.ErrRange", "internal/strconv.uint64pow10", "math/bits.deBruijn32tab", "math/bits.deBruijn64tab"], apart := false, laid := [("math/bits.deBruijn32tab", laid_math_bits_deBruijn32tab), ("math/bits.deBruijn64tab", laid_math_bits_deBruijn64tab), ("internal/strconv.uint64pow10", laid_internal_strconv_uint64pow10), ("strconv.ErrRange", laid_strconv_ErrRange), ("strconv.ErrSyntax", laid_strconv_ErrSyntax), ("analemma/offset.units", laid_analemma_offset_units)] }
def ClockStringsSaid : Prop := clockStringsRow.holds Tryd.pinned (OpenSpec.ofChange clockStringsSpec)

/-- ITS FALSE NEIGHBOUR: 'it returns false'. Refute it at one input. -/
def clockStringsWrong : ChangeSpec := { name := "clockStrings", fn := fun _ => fun
  | [d] => { results := [.lit (.bool false)], args := [d] }
  | _ => none }
def ClockStringsWrongFalsely : Prop := clockStringsRow.holds Tryd.pinned (OpenSpec.ofChange clockStringsWrong)

/-- 'analemmalaw06.ClockTimes': WHATEVER THE INPUT: true; the input reads as it did. -/
def clockTimesSpec : ChangeSpec := { name := "clockTimes", fn := fun _ => fun
  | [d] => { results := [.lit (.bool true)], args := [d] }
  | _ => none }
def clockTimesRow : OpenClaim := { program := "ytgaacbmihcbedaadoor", sum := "b2e77d6849067f5b280c88e33805ff25693fdb9771e127781b133da19932ee42", func := "analemma/analemmalaw06.ClockTimes", spec := "clockTimes", unfollowed := true, recurses := true, named := ["internal/strconv.uint64pow10", "math/bits.deBruijn32tab", "math/bits.deBruijn64tab", "analemma/offset.units", "strconv.ErrSyntax", "strconv.ErrRange"], apart := false, laid := [("math/bits.deBruijn32tab", laid_math_bits_deBruijn32tab), ("math/bits.deBruijn64tab", laid_math_bits_deBruijn64tab), ("internal/strconv.uint64pow10", laid_internal_strconv_uint64pow10), ("strconv.ErrRange", laid_strconv_ErrRange), ("strconv.ErrSyntax", laid_strconv_ErrSyntax), ("analemma/offset.units", laid_analemma_offset_units)] }
def ClockTimesSaid : Prop := clockTimesRow.holds Tryd.pinned (OpenSpec.ofChange clockTimesSpec)

/-- ITS FALSE NEIGHBOUR: 'it returns false'. Refute it at one input. -/
def clockTimesWrong : ChangeSpec := { name := "clockTimes", fn := fun _ => fun
  | [d] => { results := [.lit (.bool false)], args := [d] }
  | _ => none }
def ClockTimesWrongFalsely : Prop := clockTimesRow.holds Tryd.pinned (OpenSpec.ofChange clockTimesWrong)

/-- 'analemmalaw06.ClockBack': WHATEVER THE INPUT: true; the input reads as it did. -/
def clockBackSpec : ChangeSpec := { name := "clockBack", fn := fun _ => fun
  | [d1, d2, d3, d4] => { results := [.lit (.bool true)], args := [d1, d2, d3, d4] }
  | _ => none }
def clockBackRow : OpenClaim := { program := "ytgaacbmihcbedaadoor", sum := "b2e77d6849067f5b280c88e33805ff25693fdb9771e127781b133da19932ee42", func := "analemma/analemmalaw06.ClockBack", spec := "clockBack", unfollowed := true, recurses := true, named := ["internal/strconv.uint64pow10", "math/bits.deBruijn32tab", "math/bits.deBruijn64tab", "analemma/offset.units", "strconv.ErrSyntax", "strconv.ErrRange"], apart := false, laid := [("math/bits.deBruijn32tab", laid_math_bits_deBruijn32tab), ("math/bits.deBruijn64tab", laid_math_bits_deBruijn64tab), ("internal/strconv.uint64pow10", laid_internal_strconv_uint64pow10), ("strconv.ErrRange", laid_strconv_ErrRange), ("strconv.ErrSyntax", laid_strconv_ErrSyntax), ("analemma/offset.units", laid_analemma_offset_units)] }
def ClockBackSaid : Prop := clockBackRow.holds Tryd.pinned (OpenSpec.ofChange clockBackSpec)

/-- ITS FALSE NEIGHBOUR: 'it returns false'. Refute it at one input. -/
def clockBackWrong : ChangeSpec := { name := "clockBack", fn := fun _ => fun
  | [d1, d2, d3, d4] => { results := [.lit (.bool false)], args := [d1, d2, d3, d4] }
  | _ => none }
def ClockBackWrongFalsely : Prop := clockBackRow.holds Tryd.pinned (OpenSpec.ofChange clockBackWrong)

/-- 'analemmalaw06.ClockReads': WHATEVER THE INPUT: true; the input reads as it did. -/
def clockReadsSpec : ChangeSpec := { name := "clockReads", fn := fun _ => fun
  | [d] => { results := [.lit (.bool true)], args := [d] }
  | _ => none }
def clockReadsRow : OpenClaim := { program := "ytgaacbmihcbedaadoor", sum := "b2e77d6849067f5b280c88e33805ff25693fdb9771e127781b133da19932ee42", func := "analemma/analemmalaw06.ClockReads", spec := "clockReads", unfollowed := true, recurses := true, named := ["analemma/offset.units", "strconv.ErrSyntax", "strconv.ErrRange", "internal/strconv.uint64pow10", "math/bits.deBruijn32tab", "math/bits.deBruijn64tab"], apart := false, laid := [("math/bits.deBruijn32tab", laid_math_bits_deBruijn32tab), ("math/bits.deBruijn64tab", laid_math_bits_deBruijn64tab), ("internal/strconv.uint64pow10", laid_internal_strconv_uint64pow10), ("strconv.ErrRange", laid_strconv_ErrRange), ("strconv.ErrSyntax", laid_strconv_ErrSyntax), ("analemma/offset.units", laid_analemma_offset_units)] }
def ClockReadsSaid : Prop := clockReadsRow.holds Tryd.pinned (OpenSpec.ofChange clockReadsSpec)

/-- ITS FALSE NEIGHBOUR: 'it returns false'. Refute it at one input. -/
def clockReadsWrong : ChangeSpec := { name := "clockReads", fn := fun _ => fun
  | [d] => { results := [.lit (.bool false)], args := [d] }
  | _ => none }
def ClockReadsWrongFalsely : Prop := clockReadsRow.holds Tryd.pinned (OpenSpec.ofChange clockReadsWrong)

/-- 'analemmalaw06.ClockLetters': WHATEVER THE INPUT: true; the input reads as it did. -/
def clockLettersSpec : ChangeSpec := { name := "clockLetters", fn := fun _ => fun
  | [d1, d2] => { results := [.lit (.bool true)], args := [d1, d2] }
  | _ => none }
def clockLettersRow : OpenClaim := { program := "ytgaacbmihcbedaadoor", sum := "b2e77d6849067f5b280c88e33805ff25693fdb9771e127781b133da19932ee42", func := "analemma/analemmalaw06.ClockLetters", spec := "clockLetters", unfollowed := true, recurses := true, named := ["internal/strconv.uint64pow10", "math/bits.deBruijn32tab", "math/bits.deBruijn64tab", "analemma/offset.units", "strconv.ErrSyntax", "strconv.ErrRange"], apart := false, laid := [("math/bits.deBruijn32tab", laid_math_bits_deBruijn32tab), ("math/bits.deBruijn64tab", laid_math_bits_deBruijn64tab), ("internal/strconv.uint64pow10", laid_internal_strconv_uint64pow10), ("strconv.ErrRange", laid_strconv_ErrRange), ("strconv.ErrSyntax", laid_strconv_ErrSyntax), ("analemma/offset.units", laid_analemma_offset_units)] }
def ClockLettersSaid : Prop := clockLettersRow.holds Tryd.pinned (OpenSpec.ofChange clockLettersSpec)

/-- ITS FALSE NEIGHBOUR: 'it returns false'. Refute it at one input. -/
def clockLettersWrong : ChangeSpec := { name := "clockLetters", fn := fun _ => fun
  | [d1, d2] => { results := [.lit (.bool false)], args := [d1, d2] }
  | _ => none }
def ClockLettersWrongFalsely : Prop := clockLettersRow.holds Tryd.pinned (OpenSpec.ofChange clockLettersWrong)

/-- 'analemmalaw06.ClockRefuses': WHATEVER THE INPUT: true; the input reads as it did. -/
def clockRefusesSpec : ChangeSpec := { name := "clockRefuses", fn := fun _ => fun
  | [d1, d2, d3] => { results := [.lit (.bool true)], args := [d1, d2, d3] }
  | _ => none }
def clockRefusesRow : OpenClaim := { program := "ytgaacbmihcbedaadoor", sum := "b2e77d6849067f5b280c88e33805ff25693fdb9771e127781b133da19932ee42", func := "analemma/analemmalaw06.ClockRefuses", spec := "clockRefuses", unfollowed := true, recurses := true, named := ["internal/strconv.uint64pow10", "math/bits.deBruijn32tab", "math/bits.deBruijn64tab", "analemma/offset.units", "strconv.ErrSyntax", "strconv.ErrRange"], apart := false, laid := [("math/bits.deBruijn32tab", laid_math_bits_deBruijn32tab), ("math/bits.deBruijn64tab", laid_math_bits_deBruijn64tab), ("internal/strconv.uint64pow10", laid_internal_strconv_uint64pow10), ("strconv.ErrRange", laid_strconv_ErrRange), ("strconv.ErrSyntax", laid_strconv_ErrSyntax), ("analemma/offset.units", laid_analemma_offset_units)] }
def ClockRefusesSaid : Prop := clockRefusesRow.holds Tryd.pinned (OpenSpec.ofChange clockRefusesSpec)

/-- ITS FALSE NEIGHBOUR: 'it returns false'. Refute it at one input. -/
def clockRefusesWrong : ChangeSpec := { name := "clockRefuses", fn := fun _ => fun
  | [d1, d2, d3] => { results := [.lit (.bool false)], args := [d1, d2, d3] }
  | _ => none }
def ClockRefusesWrongFalsely : Prop := clockRefusesRow.holds Tryd.pinned (OpenSpec.ofChange clockRefusesWrong)

/- THE SECOND FORM. 'bulk': how many values and letters a reading holds, each counted each time it is reached (what is shared counts as often as it is met; a slice's spare places count too). A statement '..UptoSaid' is the law's where the arguments, and the package variables that the reading takes, are together of bulk at most 1048576: NARROWER than '..Said'. Prove '..Said' where nothing that the law and all that it calls make is longer than what came in: it says more and counts as full. Else prove '..UptoSaid'. A law counts once. -/
mutual
def uptoBulk {H : Type} : DataW H → Nat
  | .lit (.string bytes) => bytes.length + 1
  | .lit _ => 1
  | .nil => 1
  | .ptr d => uptoBulk d + 1
  | .slice elems spare => uptoBulkAll elems + uptoBulkAll spare + 1
  | .agg parts => uptoBulkAll parts + 1
  | .iface _ d => uptoBulk d + 1
  | .map entries => uptoBulkEntries entries + 1
  | .held _ => 1
def uptoBulkAll {H : Type} : List (DataW H) → Nat
  | [] => 0
  | d :: r => uptoBulk d + uptoBulkAll r
def uptoBulkEntries {H : Type} : List (Lit × DataW H) → Nat
  | [] => 0
  | x :: r => uptoBulkEntry x + uptoBulkEntries r
def uptoBulkEntry {H : Type} : Lit × DataW H → Nat
  | (.string bytes, d) => bytes.length + uptoBulk d + 1
  | (_, d) => uptoBulk d + 1
 end
def uptoSmall : (H : Type) → List (DataW H) → Bool := fun _ ds => decide (uptoBulkAll ds ≤ 1048576)
def OpenSpec.upto (s : _root_.Go.ChangeSpec) : _root_.Go.OpenSpec := { _root_.Go.OpenSpec.ofChange s with cond := some uptoSmall }

/-- 'analemmalaw04.OffsetParses', WHERE WHAT IT READS IS OF BULK AT MOST 1048576: true; the input reads as it did. -/
def offsetParsesUptoRow : OpenClaim := { program := "ytgaacbmihcbedaadoor", sum := "b2e77d6849067f5b280c88e33805ff25693fdb9771e127781b133da19932ee42", func := "analemma/analemmalaw04.OffsetParses", spec := "offsetParses", unfollowed := true, recurses := true, named := ["analemma/offset.units", "strconv.ErrSyntax", "strconv.ErrRange", "internal/strconv.uint64pow10", "math/bits.deBruijn32tab", "math/bits.deBruijn64tab"], apart := false, laid := [("math/bits.deBruijn32tab", laid_math_bits_deBruijn32tab), ("math/bits.deBruijn64tab", laid_math_bits_deBruijn64tab), ("internal/strconv.uint64pow10", laid_internal_strconv_uint64pow10), ("strconv.ErrRange", laid_strconv_ErrRange), ("strconv.ErrSyntax", laid_strconv_ErrSyntax), ("analemma/offset.units", laid_analemma_offset_units)], narrowed := true }
def OffsetParsesUptoSaid : Prop := offsetParsesUptoRow.holds Tryd.pinned (OpenSpec.upto offsetParsesSpec)

/-- 'analemmalaw04.OffsetPrints', WHERE WHAT IT READS IS OF BULK AT MOST 1048576: true; the input reads as it did. -/
def offsetPrintsUptoRow : OpenClaim := { program := "ytgaacbmihcbedaadoor", sum := "b2e77d6849067f5b280c88e33805ff25693fdb9771e127781b133da19932ee42", func := "analemma/analemmalaw04.OffsetPrints", spec := "offsetPrints", unfollowed := true, recurses := true, named := ["internal/strconv.uint64pow10", "math/bits.deBruijn32tab", "math/bits.deBruijn64tab", "analemma/offset.units", "strconv.ErrSyntax", "strconv.ErrRange"], apart := false, laid := [("math/bits.deBruijn32tab", laid_math_bits_deBruijn32tab), ("math/bits.deBruijn64tab", laid_math_bits_deBruijn64tab), ("internal/strconv.uint64pow10", laid_internal_strconv_uint64pow10), ("strconv.ErrRange", laid_strconv_ErrRange), ("strconv.ErrSyntax", laid_strconv_ErrSyntax), ("analemma/offset.units", laid_analemma_offset_units)], narrowed := true }
def OffsetPrintsUptoSaid : Prop := offsetPrintsUptoRow.holds Tryd.pinned (OpenSpec.upto offsetPrintsSpec)

/-- 'analemmalaw04.OffsetBack', WHERE WHAT IT READS IS OF BULK AT MOST 1048576: true; the input reads as it did. -/
def offsetBackUptoRow : OpenClaim := { program := "ytgaacbmihcbedaadoor", sum := "b2e77d6849067f5b280c88e33805ff25693fdb9771e127781b133da19932ee42", func := "analemma/analemmalaw04.OffsetBack", spec := "offsetBack", unfollowed := true, recurses := true, named := ["internal/strconv.uint64pow10", "math/bits.deBruijn32tab", "math/bits.deBruijn64tab", "analemma/offset.units", "strconv.ErrSyntax", "strconv.ErrRange"], apart := false, laid := [("math/bits.deBruijn32tab", laid_math_bits_deBruijn32tab), ("math/bits.deBruijn64tab", laid_math_bits_deBruijn64tab), ("internal/strconv.uint64pow10", laid_internal_strconv_uint64pow10), ("strconv.ErrRange", laid_strconv_ErrRange), ("strconv.ErrSyntax", laid_strconv_ErrSyntax), ("analemma/offset.units", laid_analemma_offset_units)], narrowed := true }
def OffsetBackUptoSaid : Prop := offsetBackUptoRow.holds Tryd.pinned (OpenSpec.upto offsetBackSpec)

/-- 'analemmalaw04.OffsetSpoilt', WHERE WHAT IT READS IS OF BULK AT MOST 1048576: true; the input reads as it did. -/
def offsetSpoiltUptoRow : OpenClaim := { program := "ytgaacbmihcbedaadoor", sum := "b2e77d6849067f5b280c88e33805ff25693fdb9771e127781b133da19932ee42", func := "analemma/analemmalaw04.OffsetSpoilt", spec := "offsetSpoilt", unfollowed := true, recurses := true, named := ["internal/strconv.uint64pow10", "math/bits.deBruijn32tab", "math/bits.deBruijn64tab", "analemma/offset.units", "strconv.ErrSyntax", "strconv.ErrRange"], apart := false, laid := [("math/bits.deBruijn32tab", laid_math_bits_deBruijn32tab), ("math/bits.deBruijn64tab", laid_math_bits_deBruijn64tab), ("internal/strconv.uint64pow10", laid_internal_strconv_uint64pow10), ("strconv.ErrRange", laid_strconv_ErrRange), ("strconv.ErrSyntax", laid_strconv_ErrSyntax), ("analemma/offset.units", laid_analemma_offset_units)], narrowed := true }
def OffsetSpoiltUptoSaid : Prop := offsetSpoiltUptoRow.holds Tryd.pinned (OpenSpec.upto offsetSpoiltSpec)

/-- 'analemmalaw04.OffsetRefuses', WHERE WHAT IT READS IS OF BULK AT MOST 1048576: true; the input reads as it did. -/
def offsetRefusesUptoRow : OpenClaim := { program := "ytgaacbmihcbedaadoor", sum := "b2e77d6849067f5b280c88e33805ff25693fdb9771e127781b133da19932ee42", func := "analemma/analemmalaw04.OffsetRefuses", spec := "offsetRefuses", unfollowed := true, recurses := true, named := ["internal/strconv.uint64pow10", "math/bits.deBruijn32tab", "math/bits.deBruijn64tab", "analemma/offset.units", "strconv.ErrSyntax", "strconv.ErrRange"], apart := false, laid := [("math/bits.deBruijn32tab", laid_math_bits_deBruijn32tab), ("math/bits.deBruijn64tab", laid_math_bits_deBruijn64tab), ("internal/strconv.uint64pow10", laid_internal_strconv_uint64pow10), ("strconv.ErrRange", laid_strconv_ErrRange), ("strconv.ErrSyntax", laid_strconv_ErrSyntax), ("analemma/offset.units", laid_analemma_offset_units)], narrowed := true }
def OffsetRefusesUptoSaid : Prop := offsetRefusesUptoRow.holds Tryd.pinned (OpenSpec.upto offsetRefusesSpec)

/-- 'analemmalaw04.OffsetOrder', WHERE WHAT IT READS IS OF BULK AT MOST 1048576: true; the input reads as it did. -/
def offsetOrderUptoRow : OpenClaim := { program := "ytgaacbmihcbedaadoor", sum := "b2e77d6849067f5b280c88e33805ff25693fdb9771e127781b133da19932ee42", func := "analemma/analemmalaw04.OffsetOrder", spec := "offsetOrder", inPlace := ["internal/bytealg.IndexByteString", "internal/bytealg.IndexString"], unfollowed := true, recurses := true, named := ["internal/strconv.uint64pow10", "math/bits.deBruijn32tab", "math/bits.deBruijn64tab", "internal/bytealg.MaxLen", "analemma/offset.units", "strconv.ErrSyntax", "strconv.ErrRange"], apart := false, laid := [("math/bits.deBruijn32tab", laid_math_bits_deBruijn32tab), ("math/bits.deBruijn64tab", laid_math_bits_deBruijn64tab), ("internal/strconv.uint64pow10", laid_internal_strconv_uint64pow10), ("strconv.ErrRange", laid_strconv_ErrRange), ("strconv.ErrSyntax", laid_strconv_ErrSyntax), ("analemma/offset.units", laid_analemma_offset_units)], narrowed := true }
def OffsetOrderUptoSaid : Prop := offsetOrderUptoRow.holds Tryd.pinned (OpenSpec.upto offsetOrderSpec)

/-- 'analemmalaw04.OffsetFields', WHERE WHAT IT READS IS OF BULK AT MOST 1048576: true; the input reads as it did. -/
def offsetFieldsUptoRow : OpenClaim := { program := "ytgaacbmihcbedaadoor", sum := "b2e77d6849067f5b280c88e33805ff25693fdb9771e127781b133da19932ee42", func := "analemma/analemmalaw04.OffsetFields", spec := "offsetFields", inPlace := ["internal/bytealg.IndexByteString", "internal/bytealg.IndexString"], unfollowed := true, recurses := true, named := ["internal/strconv.uint64pow10", "math/bits.deBruijn32tab", "math/bits.deBruijn64tab", "internal/bytealg.MaxLen", "analemma/offset.units", "strconv.ErrSyntax", "strconv.ErrRange"], apart := false, laid := [("math/bits.deBruijn32tab", laid_math_bits_deBruijn32tab), ("math/bits.deBruijn64tab", laid_math_bits_deBruijn64tab), ("internal/strconv.uint64pow10", laid_internal_strconv_uint64pow10), ("strconv.ErrRange", laid_strconv_ErrRange), ("strconv.ErrSyntax", laid_strconv_ErrSyntax), ("analemma/offset.units", laid_analemma_offset_units)], narrowed := true }
def OffsetFieldsUptoSaid : Prop := offsetFieldsUptoRow.holds Tryd.pinned (OpenSpec.upto offsetFieldsSpec)

/-- 'analemmalaw06.ClockStrings', WHERE WHAT IT READS IS OF BULK AT MOST 1048576: true; the input reads as it did. -/
def clockStringsUptoRow : OpenClaim := { program := "ytgaacbmihcbedaadoor", sum := "b2e77d6849067f5b280c88e33805ff25693fdb9771e127781b133da19932ee42", func := "analemma/analemmalaw06.ClockStrings", spec := "clockStrings", unfollowed := true, recurses := true, named := ["analemma/offset.units", "strconv.ErrSyntax", "strconv.ErrRange", "internal/strconv.uint64pow10", "math/bits.deBruijn32tab", "math/bits.deBruijn64tab"], apart := false, laid := [("math/bits.deBruijn32tab", laid_math_bits_deBruijn32tab), ("math/bits.deBruijn64tab", laid_math_bits_deBruijn64tab), ("internal/strconv.uint64pow10", laid_internal_strconv_uint64pow10), ("strconv.ErrRange", laid_strconv_ErrRange), ("strconv.ErrSyntax", laid_strconv_ErrSyntax), ("analemma/offset.units", laid_analemma_offset_units)], narrowed := true }
def ClockStringsUptoSaid : Prop := clockStringsUptoRow.holds Tryd.pinned (OpenSpec.upto clockStringsSpec)

/-- 'analemmalaw06.ClockTimes', WHERE WHAT IT READS IS OF BULK AT MOST 1048576: true; the input reads as it did. -/
def clockTimesUptoRow : OpenClaim := { program := "ytgaacbmihcbedaadoor", sum := "b2e77d6849067f5b280c88e33805ff25693fdb9771e127781b133da19932ee42", func := "analemma/analemmalaw06.ClockTimes", spec := "clockTimes", unfollowed := true, recurses := true, named := ["internal/strconv.uint64pow10", "math/bits.deBruijn32tab", "math/bits.deBruijn64tab", "analemma/offset.units", "strconv.ErrSyntax", "strconv.ErrRange"], apart := false, laid := [("math/bits.deBruijn32tab", laid_math_bits_deBruijn32tab), ("math/bits.deBruijn64tab", laid_math_bits_deBruijn64tab), ("internal/strconv.uint64pow10", laid_internal_strconv_uint64pow10), ("strconv.ErrRange", laid_strconv_ErrRange), ("strconv.ErrSyntax", laid_strconv_ErrSyntax), ("analemma/offset.units", laid_analemma_offset_units)], narrowed := true }
def ClockTimesUptoSaid : Prop := clockTimesUptoRow.holds Tryd.pinned (OpenSpec.upto clockTimesSpec)

/-- 'analemmalaw06.ClockBack', WHERE WHAT IT READS IS OF BULK AT MOST 1048576: true; the input reads as it did. -/
def clockBackUptoRow : OpenClaim := { program := "ytgaacbmihcbedaadoor", sum := "b2e77d6849067f5b280c88e33805ff25693fdb9771e127781b133da19932ee42", func := "analemma/analemmalaw06.ClockBack", spec := "clockBack", unfollowed := true, recurses := true, named := ["internal/strconv.uint64pow10", "math/bits.deBruijn32tab", "math/bits.deBruijn64tab", "analemma/offset.units", "strconv.ErrSyntax", "strconv.ErrRange"], apart := false, laid := [("math/bits.deBruijn32tab", laid_math_bits_deBruijn32tab), ("math/bits.deBruijn64tab", laid_math_bits_deBruijn64tab), ("internal/strconv.uint64pow10", laid_internal_strconv_uint64pow10), ("strconv.ErrRange", laid_strconv_ErrRange), ("strconv.ErrSyntax", laid_strconv_ErrSyntax), ("analemma/offset.units", laid_analemma_offset_units)], narrowed := true }
def ClockBackUptoSaid : Prop := clockBackUptoRow.holds Tryd.pinned (OpenSpec.upto clockBackSpec)

/-- 'analemmalaw06.ClockReads', WHERE WHAT IT READS IS OF BULK AT MOST 1048576: true; the input reads as it did. -/
def clockReadsUptoRow : OpenClaim := { program := "ytgaacbmihcbedaadoor", sum := "b2e77d6849067f5b280c88e33805ff25693fdb9771e127781b133da19932ee42", func := "analemma/analemmalaw06.ClockReads", spec := "clockReads", unfollowed := true, recurses := true, named := ["analemma/offset.units", "strconv.ErrSyntax", "strconv.ErrRange", "internal/strconv.uint64pow10", "math/bits.deBruijn32tab", "math/bits.deBruijn64tab"], apart := false, laid := [("math/bits.deBruijn32tab", laid_math_bits_deBruijn32tab), ("math/bits.deBruijn64tab", laid_math_bits_deBruijn64tab), ("internal/strconv.uint64pow10", laid_internal_strconv_uint64pow10), ("strconv.ErrRange", laid_strconv_ErrRange), ("strconv.ErrSyntax", laid_strconv_ErrSyntax), ("analemma/offset.units", laid_analemma_offset_units)], narrowed := true }
def ClockReadsUptoSaid : Prop := clockReadsUptoRow.holds Tryd.pinned (OpenSpec.upto clockReadsSpec)

/-- 'analemmalaw06.ClockLetters', WHERE WHAT IT READS IS OF BULK AT MOST 1048576: true; the input reads as it did. -/
def clockLettersUptoRow : OpenClaim := { program := "ytgaacbmihcbedaadoor", sum := "b2e77d6849067f5b280c88e33805ff25693fdb9771e127781b133da19932ee42", func := "analemma/analemmalaw06.ClockLetters", spec := "clockLetters", unfollowed := true, recurses := true, named := ["internal/strconv.uint64pow10", "math/bits.deBruijn32tab", "math/bits.deBruijn64tab", "analemma/offset.units", "strconv.ErrSyntax", "strconv.ErrRange"], apart := false, laid := [("math/bits.deBruijn32tab", laid_math_bits_deBruijn32tab), ("math/bits.deBruijn64tab", laid_math_bits_deBruijn64tab), ("internal/strconv.uint64pow10", laid_internal_strconv_uint64pow10), ("strconv.ErrRange", laid_strconv_ErrRange), ("strconv.ErrSyntax", laid_strconv_ErrSyntax), ("analemma/offset.units", laid_analemma_offset_units)], narrowed := true }
def ClockLettersUptoSaid : Prop := clockLettersUptoRow.holds Tryd.pinned (OpenSpec.upto clockLettersSpec)

/-- 'analemmalaw06.ClockRefuses', WHERE WHAT IT READS IS OF BULK AT MOST 1048576: true; the input reads as it did. -/
def clockRefusesUptoRow : OpenClaim := { program := "ytgaacbmihcbedaadoor", sum := "b2e77d6849067f5b280c88e33805ff25693fdb9771e127781b133da19932ee42", func := "analemma/analemmalaw06.ClockRefuses", spec := "clockRefuses", unfollowed := true, recurses := true, named := ["internal/strconv.uint64pow10", "math/bits.deBruijn32tab", "math/bits.deBruijn64tab", "analemma/offset.units", "strconv.ErrSyntax", "strconv.ErrRange"], apart := false, laid := [("math/bits.deBruijn32tab", laid_math_bits_deBruijn32tab), ("math/bits.deBruijn64tab", laid_math_bits_deBruijn64tab), ("internal/strconv.uint64pow10", laid_internal_strconv_uint64pow10), ("strconv.ErrRange", laid_strconv_ErrRange), ("strconv.ErrSyntax", laid_strconv_ErrSyntax), ("analemma/offset.units", laid_analemma_offset_units)], narrowed := true }
def ClockRefusesUptoSaid : Prop := clockRefusesUptoRow.holds Tryd.pinned (OpenSpec.upto clockRefusesSpec)

end Rows
end Go.Proofs.YtgaacbmihcbedaaDoor
