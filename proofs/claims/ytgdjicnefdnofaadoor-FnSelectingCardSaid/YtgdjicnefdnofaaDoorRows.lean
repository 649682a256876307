/-
  NARROWER THAN 'FOR EVERY INPUT', by the rows' own cells (each row's printed sentence says how): FnExactIsResponse: laid · FnExactAgrees: laid · FnQualities: laid · FnExactVisitorOf: laid · FnExactVaryOf: laid · FnExactParseQualities: laid · FnExactAgeField: laid · FnExactChooseName: laid · FnExactFormatResponse: laid · FnSelecting: laid · FnExactIsRequest: laid · FnExactFormatRequest: laid.
  DERIVED. THE GIVEN ROWS OF THIS SEAT. 12 by the template 'for every input the law returns true; each argument reads behind the call as it read before'; 0 by the template 'total and deterministic' (their statements: YtgdjicnefdnofaaDoorTotals.lean).
  GIVEN WITH THE SEED: the statements are not yours to turn. If you find one false, say at which input.
  Laid BY PROGRAM, IN A SANDBOX (cutbox-rows.mjs): the forced cells as the released guide's own fill.sh prints them over the translation b975fb7d2f304abb… (all of the seat's roots in one cut). By AI agents, Wed Nov 11 2026. No macro, syntax, notation, axiom, sorry.
-/
import Derived.Test.YtgdjicnefdnofaaDoorChecked
import GoSem.PinnedTables
import GoSem.Claim
import GoSem.ClaimJoined
import GoSem.ClaimMapViews
import Derived.JoinedTies
import Derived.KernelRfl
namespace Go.Proofs.YtgdjicnefdnofaaDoor
/- THE CELL 'sum', in the pinned program and in every row, IS THE sha256 OF THE DUMP (.gsa) THAT YtgdjicnefdnofaaDoorProg.lean LOADS. Nothing in Lean hashes anything: it is a label: what it is worth is what the hold of that sum in a sandbox is worth. -/
noncomputable def Tryd.pinned : Pinned := { name := "ytgdjicnefdnofaadoor", sum := "b975fb7d2f304abb148cea19703c7ed07ace420a3c6ddf750707694dd20ec18a", checked := Tryd.checked }
namespace Rows
def none {H : Type} : Left H := { results := [], args := [] }

/- WHAT THE LISTED PACKAGE-LEVEL VARIABLES READ AS WHEN THE CALL BEGINS. Each datum BY PROGRAM (the guide's laid-datum.mjs) off the statement by which the dump's own 'gosem.cut.vars' lays the variable. In a bare row this is a premise. The card (YtgdjicnefdnofaaDoorCards.lean) ties it to the program's text. -/
def laid_unicode_utf8_acceptRanges {H : Type} : DataW H := .agg [.agg [.lit (.int .u8 128), .lit (.int .u8 191)], .agg [.lit (.int .u8 160), .lit (.int .u8 191)], .agg [.lit (.int .u8 128), .lit (.int .u8 159)], .agg [.lit (.int .u8 144), .lit (.int .u8 191)], .agg [.lit (.int .u8 128), .lit (.int .u8 143)], .agg [.lit (.int .u8 0), .lit (.int .u8 0)], .agg [.lit (.int .u8 0), .lit (.int .u8 0)], .agg [.lit (.int .u8 0), .lit (.int .u8 0)], .agg [.lit (.int .u8 0), .lit (.int .u8 0)], .agg [.lit (.int .u8 0), .lit (.int .u8 0)], .agg [.lit (.int .u8 0), .lit (.int .u8 0)], .agg [.lit (.int .u8 0), .lit (.int .u8 0)], .agg [.lit (.int .u8 0), .lit (.int .u8 0)], .agg [.lit (.int .u8 0), .lit (.int .u8 0)], .agg [.lit (.int .u8 0), .lit (.int .u8 0)], .agg [.lit (.int .u8 0), .lit (.int .u8 0)]]
/-- One of Go's own tables, pinned by name: the form's constant. -/
def laid_unicode_utf8_first : DataW Unit := Go.Pinned.utf8First
def laid_math_bits_deBruijn32tab {H : Type} : DataW H := .agg [.lit (.int .u8 0), .lit (.int .u8 1), .lit (.int .u8 28), .lit (.int .u8 2), .lit (.int .u8 29), .lit (.int .u8 14), .lit (.int .u8 24), .lit (.int .u8 3), .lit (.int .u8 30), .lit (.int .u8 22), .lit (.int .u8 20), .lit (.int .u8 15), .lit (.int .u8 25), .lit (.int .u8 17), .lit (.int .u8 4), .lit (.int .u8 8), .lit (.int .u8 31), .lit (.int .u8 27), .lit (.int .u8 13), .lit (.int .u8 23), .lit (.int .u8 21), .lit (.int .u8 19), .lit (.int .u8 16), .lit (.int .u8 7), .lit (.int .u8 26), .lit (.int .u8 12), .lit (.int .u8 18), .lit (.int .u8 6), .lit (.int .u8 11), .lit (.int .u8 5), .lit (.int .u8 10), .lit (.int .u8 9)]
def laid_math_bits_deBruijn64tab {H : Type} : DataW H := .agg [.lit (.int .u8 0), .lit (.int .u8 1), .lit (.int .u8 56), .lit (.int .u8 2), .lit (.int .u8 57), .lit (.int .u8 49), .lit (.int .u8 28), .lit (.int .u8 3), .lit (.int .u8 61), .lit (.int .u8 58), .lit (.int .u8 42), .lit (.int .u8 50), .lit (.int .u8 38), .lit (.int .u8 29), .lit (.int .u8 17), .lit (.int .u8 4), .lit (.int .u8 62), .lit (.int .u8 47), .lit (.int .u8 59), .lit (.int .u8 36), .lit (.int .u8 45), .lit (.int .u8 43), .lit (.int .u8 51), .lit (.int .u8 22), .lit (.int .u8 53), .lit (.int .u8 39), .lit (.int .u8 33), .lit (.int .u8 30), .lit (.int .u8 24), .lit (.int .u8 18), .lit (.int .u8 12), .lit (.int .u8 5), .lit (.int .u8 63), .lit (.int .u8 55), .lit (.int .u8 48), .lit (.int .u8 27), .lit (.int .u8 60), .lit (.int .u8 41), .lit (.int .u8 37), .lit (.int .u8 16), .lit (.int .u8 46), .lit (.int .u8 35), .lit (.int .u8 44), .lit (.int .u8 21), .lit (.int .u8 52), .lit (.int .u8 32), .lit (.int .u8 23), .lit (.int .u8 11), .lit (.int .u8 54), .lit (.int .u8 26), .lit (.int .u8 40), .lit (.int .u8 15), .lit (.int .u8 34), .lit (.int .u8 20), .lit (.int .u8 31), .lit (.int .u8 10), .lit (.int .u8 25), .lit (.int .u8 14), .lit (.int .u8 19), .lit (.int .u8 9), .lit (.int .u8 13), .lit (.int .u8 8), .lit (.int .u8 7), .lit (.int .u8 6)]
def laid_internal_strconv_uint64pow10 {H : Type} : DataW H := .agg [.lit (.int .u64 1), .lit (.int .u64 10), .lit (.int .u64 100), .lit (.int .u64 1000), .lit (.int .u64 10000), .lit (.int .u64 100000), .lit (.int .u64 1000000), .lit (.int .u64 10000000), .lit (.int .u64 100000000), .lit (.int .u64 1000000000), .lit (.int .u64 10000000000), .lit (.int .u64 100000000000), .lit (.int .u64 1000000000000), .lit (.int .u64 10000000000000), .lit (.int .u64 100000000000000), .lit (.int .u64 1000000000000000), .lit (.int .u64 10000000000000000), .lit (.int .u64 100000000000000000), .lit (.int .u64 1000000000000000000), .lit (.int .u64 10000000000000000000)]
def laid_strconv_ErrRange {H : Type} : DataW H := .iface "*errors.errorString" (.ptr (.agg [.lit (.string [118, 97, 108, 117, 101, 32, 111, 117, 116, 32, 111, 102, 32, 114, 97, 110, 103, 101])]))
def laid_strconv_ErrSyntax {H : Type} : DataW H := .iface "*errors.errorString" (.ptr (.agg [.lit (.string [105, 110, 118, 97, 108, 105, 100, 32, 115, 121, 110, 116, 97, 120])]))
/-- One of Go's own tables, pinned by name: the form's constant. -/
def laid_unicode_CaseRanges : DataW Unit := Go.Pinned.caseRanges

/-- 'laws.FnExactIsResponse': WHATEVER THE INPUT: true; the input reads as it did. -/
def fnExactIsResponseSpec : ChangeSpec := { name := "fnExactIsResponse", fn := fun _ => fun
  | [d] => { results := [.lit (.bool true)], args := [d] }
  | _ => none }
def fnExactIsResponseRow : OpenClaim := { program := "ytgdjicnefdnofaadoor", sum := "b975fb7d2f304abb148cea19703c7ed07ace420a3c6ddf750707694dd20ec18a", func := "loop.example/g03012/laws.FnExactIsResponse", spec := "fnExactIsResponse", inPlace := ["internal/bytealg.IndexByteString", "internal/bytealg.IndexString"], unfollowed := true, recurses := true, named := ["unicode/utf8.first", "unicode/utf8.acceptRanges", "internal/bytealg.MaxLen"], apart := false, laid := [("unicode/utf8.acceptRanges", laid_unicode_utf8_acceptRanges), ("unicode/utf8.first", laid_unicode_utf8_first)] }
def FnExactIsResponseSaid : Prop := fnExactIsResponseRow.holds Tryd.pinned (OpenSpec.ofChange fnExactIsResponseSpec)

/-- ITS FALSE NEIGHBOUR: 'it returns false'. Refute it at one input. -/
def fnExactIsResponseWrong : ChangeSpec := { name := "fnExactIsResponse", fn := fun _ => fun
  | [d] => { results := [.lit (.bool false)], args := [d] }
  | _ => none }
def FnExactIsResponseWrongFalsely : Prop := fnExactIsResponseRow.holds Tryd.pinned (OpenSpec.ofChange fnExactIsResponseWrong)

/-- 'laws.FnExactAgrees': WHATEVER THE INPUT: true; the input reads as it did. -/
def fnExactAgreesSpec : ChangeSpec := { name := "fnExactAgrees", fn := fun _ => fun
  | [d1, d2] => { results := [.lit (.bool true)], args := [d1, d2] }
  | _ => none }
def fnExactAgreesRow : OpenClaim := { program := "ytgdjicnefdnofaadoor", sum := "b975fb7d2f304abb148cea19703c7ed07ace420a3c6ddf750707694dd20ec18a", func := "loop.example/g03012/laws.FnExactAgrees", spec := "fnExactAgrees", inPlace := ["internal/abi.NoEscape", "internal/bytealg.MakeNoZero", "internal/bytealg.IndexByteString", "internal/bytealg.IndexString"], named := ["unicode/utf8.first", "unicode/utf8.acceptRanges", "internal/bytealg.MaxLen"], apart := false, laid := [("unicode/utf8.acceptRanges", laid_unicode_utf8_acceptRanges), ("unicode/utf8.first", laid_unicode_utf8_first)] }
def FnExactAgreesSaid : Prop := fnExactAgreesRow.holds Tryd.pinned (OpenSpec.ofChange fnExactAgreesSpec)

/-- ITS FALSE NEIGHBOUR: 'it returns false'. Refute it at one input. -/
def fnExactAgreesWrong : ChangeSpec := { name := "fnExactAgrees", fn := fun _ => fun
  | [d1, d2] => { results := [.lit (.bool false)], args := [d1, d2] }
  | _ => none }
def FnExactAgreesWrongFalsely : Prop := fnExactAgreesRow.holds Tryd.pinned (OpenSpec.ofChange fnExactAgreesWrong)

/-- 'laws.FnQualities': WHATEVER THE INPUT: true; the input reads as it did. -/
def fnQualitiesSpec : ChangeSpec := { name := "fnQualities", fn := fun _ => fun
  | [d] => { results := [.lit (.bool true)], args := [d] }
  | _ => none }
def fnQualitiesRow : OpenClaim := { program := "ytgdjicnefdnofaadoor", sum := "b975fb7d2f304abb148cea19703c7ed07ace420a3c6ddf750707694dd20ec18a", func := "loop.example/g03012/laws.FnQualities", spec := "fnQualities", inPlace := ["internal/bytealg.IndexByteString", "internal/bytealg.IndexString", "internal/bytealg.CountString"], named := ["unicode/utf8.first", "unicode/utf8.acceptRanges", "internal/bytealg.MaxLen"], apart := false, laid := [("unicode/utf8.acceptRanges", laid_unicode_utf8_acceptRanges), ("unicode/utf8.first", laid_unicode_utf8_first)] }
def FnQualitiesSaid : Prop := fnQualitiesRow.holds Tryd.pinned (OpenSpec.ofChange fnQualitiesSpec)

/-- ITS FALSE NEIGHBOUR: 'it returns false'. Refute it at one input. -/
def fnQualitiesWrong : ChangeSpec := { name := "fnQualities", fn := fun _ => fun
  | [d] => { results := [.lit (.bool false)], args := [d] }
  | _ => none }
def FnQualitiesWrongFalsely : Prop := fnQualitiesRow.holds Tryd.pinned (OpenSpec.ofChange fnQualitiesWrong)

/-- 'laws.FnExactVisitorOf': WHATEVER THE INPUT: true; the input reads as it did. -/
def fnExactVisitorOfSpec : ChangeSpec := { name := "fnExactVisitorOf", fn := fun _ => fun
  | [d] => { results := [.lit (.bool true)], args := [d] }
  | _ => none }
def fnExactVisitorOfRow : OpenClaim := { program := "ytgdjicnefdnofaadoor", sum := "b975fb7d2f304abb148cea19703c7ed07ace420a3c6ddf750707694dd20ec18a", func := "loop.example/g03012/laws.FnExactVisitorOf", spec := "fnExactVisitorOf", inPlace := ["internal/abi.NoEscape", "internal/bytealg.MakeNoZero", "internal/bytealg.IndexByteString", "internal/bytealg.IndexString"], named := ["unicode/utf8.first", "unicode/utf8.acceptRanges", "internal/bytealg.MaxLen"], apart := false, laid := [("unicode/utf8.acceptRanges", laid_unicode_utf8_acceptRanges), ("unicode/utf8.first", laid_unicode_utf8_first)] }
def FnExactVisitorOfSaid : Prop := fnExactVisitorOfRow.holds Tryd.pinned (OpenSpec.ofChange fnExactVisitorOfSpec)

/-- ITS FALSE NEIGHBOUR: 'it returns false'. Refute it at one input. -/
def fnExactVisitorOfWrong : ChangeSpec := { name := "fnExactVisitorOf", fn := fun _ => fun
  | [d] => { results := [.lit (.bool false)], args := [d] }
  | _ => none }
def FnExactVisitorOfWrongFalsely : Prop := fnExactVisitorOfRow.holds Tryd.pinned (OpenSpec.ofChange fnExactVisitorOfWrong)

/-- 'laws.FnExactVaryOf': WHATEVER THE INPUT: true; the input reads as it did. -/
def fnExactVaryOfSpec : ChangeSpec := { name := "fnExactVaryOf", fn := fun _ => fun
  | [d] => { results := [.lit (.bool true)], args := [d] }
  | _ => none }
def fnExactVaryOfRow : OpenClaim := { program := "ytgdjicnefdnofaadoor", sum := "b975fb7d2f304abb148cea19703c7ed07ace420a3c6ddf750707694dd20ec18a", func := "loop.example/g03012/laws.FnExactVaryOf", spec := "fnExactVaryOf", inPlace := ["internal/abi.NoEscape", "internal/bytealg.MakeNoZero", "internal/bytealg.IndexByteString", "internal/bytealg.IndexString"], named := ["unicode/utf8.first", "unicode/utf8.acceptRanges", "internal/bytealg.MaxLen"], apart := false, laid := [("unicode/utf8.acceptRanges", laid_unicode_utf8_acceptRanges), ("unicode/utf8.first", laid_unicode_utf8_first)] }
def FnExactVaryOfSaid : Prop := fnExactVaryOfRow.holds Tryd.pinned (OpenSpec.ofChange fnExactVaryOfSpec)

/-- ITS FALSE NEIGHBOUR: 'it returns false'. Refute it at one input. -/
def fnExactVaryOfWrong : ChangeSpec := { name := "fnExactVaryOf", fn := fun _ => fun
  | [d] => { results := [.lit (.bool false)], args := [d] }
  | _ => none }
def FnExactVaryOfWrongFalsely : Prop := fnExactVaryOfRow.holds Tryd.pinned (OpenSpec.ofChange fnExactVaryOfWrong)

/-- 'laws.FnExactParseQualities': WHATEVER THE INPUT: true; the input reads as it did. -/
def fnExactParseQualitiesSpec : ChangeSpec := { name := "fnExactParseQualities", fn := fun _ => fun
  | [d] => { results := [.lit (.bool true)], args := [d] }
  | _ => none }
def fnExactParseQualitiesRow : OpenClaim := { program := "ytgdjicnefdnofaadoor", sum := "b975fb7d2f304abb148cea19703c7ed07ace420a3c6ddf750707694dd20ec18a", func := "loop.example/g03012/laws.FnExactParseQualities", spec := "fnExactParseQualities", inPlace := ["internal/bytealg.IndexByteString", "internal/bytealg.IndexString", "internal/bytealg.CountString"], named := ["unicode/utf8.first", "unicode/utf8.acceptRanges", "internal/bytealg.MaxLen"], apart := false, laid := [("unicode/utf8.acceptRanges", laid_unicode_utf8_acceptRanges), ("unicode/utf8.first", laid_unicode_utf8_first)] }
def FnExactParseQualitiesSaid : Prop := fnExactParseQualitiesRow.holds Tryd.pinned (OpenSpec.ofChange fnExactParseQualitiesSpec)

/-- ITS FALSE NEIGHBOUR: 'it returns false'. Refute it at one input. -/
def fnExactParseQualitiesWrong : ChangeSpec := { name := "fnExactParseQualities", fn := fun _ => fun
  | [d] => { results := [.lit (.bool false)], args := [d] }
  | _ => none }
def FnExactParseQualitiesWrongFalsely : Prop := fnExactParseQualitiesRow.holds Tryd.pinned (OpenSpec.ofChange fnExactParseQualitiesWrong)

/-- 'laws.FnExactAgeField': WHATEVER THE INPUT: true; the input reads as it did. -/
def fnExactAgeFieldSpec : ChangeSpec := { name := "fnExactAgeField", fn := fun _ => fun
  | [d] => { results := [.lit (.bool true)], args := [d] }
  | _ => none }
def fnExactAgeFieldRow : OpenClaim := { program := "ytgdjicnefdnofaadoor", sum := "b975fb7d2f304abb148cea19703c7ed07ace420a3c6ddf750707694dd20ec18a", func := "loop.example/g03012/laws.FnExactAgeField", spec := "fnExactAgeField", inPlace := ["internal/abi.NoEscape", "internal/bytealg.MakeNoZero"], named := ["strconv.ErrSyntax", "strconv.ErrRange", "internal/strconv.uint64pow10", "math/bits.deBruijn32tab", "math/bits.deBruijn64tab"], apart := false, laid := [("math/bits.deBruijn32tab", laid_math_bits_deBruijn32tab), ("math/bits.deBruijn64tab", laid_math_bits_deBruijn64tab), ("internal/strconv.uint64pow10", laid_internal_strconv_uint64pow10), ("strconv.ErrRange", laid_strconv_ErrRange), ("strconv.ErrSyntax", laid_strconv_ErrSyntax)] }
def FnExactAgeFieldSaid : Prop := fnExactAgeFieldRow.holds Tryd.pinned (OpenSpec.ofChange fnExactAgeFieldSpec)

/-- ITS FALSE NEIGHBOUR: 'it returns false'. Refute it at one input. -/
def fnExactAgeFieldWrong : ChangeSpec := { name := "fnExactAgeField", fn := fun _ => fun
  | [d] => { results := [.lit (.bool false)], args := [d] }
  | _ => none }
def FnExactAgeFieldWrongFalsely : Prop := fnExactAgeFieldRow.holds Tryd.pinned (OpenSpec.ofChange fnExactAgeFieldWrong)

/-- 'laws.FnExactChooseName': WHATEVER THE INPUT: true; the input reads as it did. -/
def fnExactChooseNameSpec : ChangeSpec := { name := "fnExactChooseName", fn := fun _ => fun
  | [d1, d2] => { results := [.lit (.bool true)], args := [d1, d2] }
  | _ => none }
def fnExactChooseNameRow : OpenClaim := { program := "ytgdjicnefdnofaadoor", sum := "b975fb7d2f304abb148cea19703c7ed07ace420a3c6ddf750707694dd20ec18a", func := "loop.example/g03012/laws.FnExactChooseName", spec := "fnExactChooseName", inPlace := ["internal/bytealg.IndexByteString", "internal/bytealg.IndexString", "internal/bytealg.CountString"], named := ["unicode/utf8.first", "unicode/utf8.acceptRanges", "internal/bytealg.MaxLen"], apart := false, laid := [("unicode/utf8.acceptRanges", laid_unicode_utf8_acceptRanges), ("unicode/utf8.first", laid_unicode_utf8_first)] }
def FnExactChooseNameSaid : Prop := fnExactChooseNameRow.holds Tryd.pinned (OpenSpec.ofChange fnExactChooseNameSpec)

/-- ITS FALSE NEIGHBOUR: 'it returns false'. Refute it at one input. -/
def fnExactChooseNameWrong : ChangeSpec := { name := "fnExactChooseName", fn := fun _ => fun
  | [d1, d2] => { results := [.lit (.bool false)], args := [d1, d2] }
  | _ => none }
def FnExactChooseNameWrongFalsely : Prop := fnExactChooseNameRow.holds Tryd.pinned (OpenSpec.ofChange fnExactChooseNameWrong)

/-- 'laws.FnExactFormatResponse': WHATEVER THE INPUT: true; the input reads as it did. -/
def fnExactFormatResponseSpec : ChangeSpec := { name := "fnExactFormatResponse", fn := fun _ => fun
  | [d] => { results := [.lit (.bool true)], args := [d] }
  | _ => none }
def fnExactFormatResponseRow : OpenClaim := { program := "ytgdjicnefdnofaadoor", sum := "b975fb7d2f304abb148cea19703c7ed07ace420a3c6ddf750707694dd20ec18a", func := "loop.example/g03012/laws.FnExactFormatResponse", spec := "fnExactFormatResponse", inPlace := ["internal/bytealg.IndexByteString", "internal/bytealg.IndexString"], unfollowed := true, recurses := true, named := ["unicode/utf8.first", "unicode/utf8.acceptRanges", "internal/strconv.uint64pow10", "math/bits.deBruijn32tab", "math/bits.deBruijn64tab", "internal/bytealg.MaxLen"], apart := false, laid := [("math/bits.deBruijn32tab", laid_math_bits_deBruijn32tab), ("math/bits.deBruijn64tab", laid_math_bits_deBruijn64tab), ("internal/strconv.uint64pow10", laid_internal_strconv_uint64pow10), ("unicode/utf8.acceptRanges", laid_unicode_utf8_acceptRanges), ("unicode/utf8.first", laid_unicode_utf8_first)] }
def FnExactFormatResponseSaid : Prop := fnExactFormatResponseRow.holds Tryd.pinned (OpenSpec.ofChange fnExactFormatResponseSpec)

/-- ITS FALSE NEIGHBOUR: 'it returns false'. Refute it at one input. -/
def fnExactFormatResponseWrong : ChangeSpec := { name := "fnExactFormatResponse", fn := fun _ => fun
  | [d] => { results := [.lit (.bool false)], args := [d] }
  | _ => none }
def FnExactFormatResponseWrongFalsely : Prop := fnExactFormatResponseRow.holds Tryd.pinned (OpenSpec.ofChange fnExactFormatResponseWrong)

/-- 'laws.FnSelecting': WHATEVER THE INPUT: true; the input reads as it did. -/
def fnSelectingSpec : ChangeSpec := { name := "fnSelecting", fn := fun _ => fun
  | [d] => { results := [.lit (.bool true)], args := [d] }
  | _ => none }
def fnSelectingRow : OpenClaim := { program := "ytgdjicnefdnofaadoor", sum := "b975fb7d2f304abb148cea19703c7ed07ace420a3c6ddf750707694dd20ec18a", func := "loop.example/g03012/laws.FnSelecting", spec := "fnSelecting", inPlace := ["internal/abi.NoEscape", "internal/bytealg.MakeNoZero", "internal/bytealg.IndexByteString", "internal/bytealg.IndexString", "internal/bytealg.CountString"], named := ["unicode/utf8.first", "unicode/utf8.acceptRanges", "internal/bytealg.MaxLen"], apart := false, laid := [("unicode/utf8.acceptRanges", laid_unicode_utf8_acceptRanges), ("unicode/utf8.first", laid_unicode_utf8_first)] }
def FnSelectingSaid : Prop := fnSelectingRow.holds Tryd.pinned (OpenSpec.ofChange fnSelectingSpec)

/-- ITS FALSE NEIGHBOUR: 'it returns false'. Refute it at one input. -/
def fnSelectingWrong : ChangeSpec := { name := "fnSelecting", fn := fun _ => fun
  | [d] => { results := [.lit (.bool false)], args := [d] }
  | _ => none }
def FnSelectingWrongFalsely : Prop := fnSelectingRow.holds Tryd.pinned (OpenSpec.ofChange fnSelectingWrong)

/-- 'laws.FnExactIsRequest': WHATEVER THE INPUT: true; the input reads as it did. -/
def fnExactIsRequestSpec : ChangeSpec := { name := "fnExactIsRequest", fn := fun _ => fun
  | [d] => { results := [.lit (.bool true)], args := [d] }
  | _ => none }
def fnExactIsRequestRow : OpenClaim := { program := "ytgdjicnefdnofaadoor", sum := "b975fb7d2f304abb148cea19703c7ed07ace420a3c6ddf750707694dd20ec18a", func := "loop.example/g03012/laws.FnExactIsRequest", spec := "fnExactIsRequest", inPlace := ["internal/bytealg.IndexByteString", "internal/abi.NoEscape", "internal/bytealg.MakeNoZero", "internal/bytealg.IndexString"], unfollowed := true, recurses := true, named := ["unicode/utf8.first", "unicode/utf8.acceptRanges", "unicode.CaseRanges", "internal/bytealg.MaxLen"], apart := false, laid := [("unicode/utf8.acceptRanges", laid_unicode_utf8_acceptRanges), ("unicode.CaseRanges", laid_unicode_CaseRanges), ("unicode/utf8.first", laid_unicode_utf8_first)] }
def FnExactIsRequestSaid : Prop := fnExactIsRequestRow.holds Tryd.pinned (OpenSpec.ofChange fnExactIsRequestSpec)

/-- ITS FALSE NEIGHBOUR: 'it returns false'. Refute it at one input. -/
def fnExactIsRequestWrong : ChangeSpec := { name := "fnExactIsRequest", fn := fun _ => fun
  | [d] => { results := [.lit (.bool false)], args := [d] }
  | _ => none }
def FnExactIsRequestWrongFalsely : Prop := fnExactIsRequestRow.holds Tryd.pinned (OpenSpec.ofChange fnExactIsRequestWrong)

/-- 'laws.FnExactFormatRequest': WHATEVER THE INPUT: true; the input reads as it did. -/
def fnExactFormatRequestSpec : ChangeSpec := { name := "fnExactFormatRequest", fn := fun _ => fun
  | [d] => { results := [.lit (.bool true)], args := [d] }
  | _ => none }
def fnExactFormatRequestRow : OpenClaim := { program := "ytgdjicnefdnofaadoor", sum := "b975fb7d2f304abb148cea19703c7ed07ace420a3c6ddf750707694dd20ec18a", func := "loop.example/g03012/laws.FnExactFormatRequest", spec := "fnExactFormatRequest", inPlace := ["internal/bytealg.IndexByteString", "internal/abi.NoEscape", "internal/bytealg.MakeNoZero", "internal/bytealg.IndexString"], unfollowed := true, recurses := true, named := ["unicode/utf8.first", "unicode/utf8.acceptRanges", "unicode.CaseRanges", "internal/bytealg.MaxLen"], apart := false, laid := [("unicode/utf8.acceptRanges", laid_unicode_utf8_acceptRanges), ("unicode.CaseRanges", laid_unicode_CaseRanges), ("unicode/utf8.first", laid_unicode_utf8_first)] }
def FnExactFormatRequestSaid : Prop := fnExactFormatRequestRow.holds Tryd.pinned (OpenSpec.ofChange fnExactFormatRequestSpec)

/-- ITS FALSE NEIGHBOUR: 'it returns false'. Refute it at one input. -/
def fnExactFormatRequestWrong : ChangeSpec := { name := "fnExactFormatRequest", fn := fun _ => fun
  | [d] => { results := [.lit (.bool false)], args := [d] }
  | _ => none }
def FnExactFormatRequestWrongFalsely : Prop := fnExactFormatRequestRow.holds Tryd.pinned (OpenSpec.ofChange fnExactFormatRequestWrong)

/- THE SECOND FORM. 'bulk': how many values and letters a reading holds, each counted each time it is reached (what is shared counts as often as it is met; a slice's spare places count too). A statement '..UptoSaid' is the law's where the arguments, and the package variables that the reading takes, are together of bulk at most 1048576: NARROWER than '..Said'. Prove '..Said' where nothing that the law and all that it calls make is longer than what came in: it says more and counts as full. Else prove '..UptoSaid'. A law counts once. -/
mutual
def uptoBulk {H : Type} : DataW H → Nat
  | .lit (.string bytes) => bytes.length + 1
  | .lit _ => 1
  | .nil => 1
  | .ptr d => uptoBulk d + 1
  | .slice elems spare => uptoBulkAll elems + uptoBulkAll spare + 1
  | .agg parts => uptoBulkAll parts + 1
  | .iface _ d => uptoBulk d + 1
  | .map entries => uptoBulkEntries entries + 1
  | .held _ => 1
def uptoBulkAll {H : Type} : List (DataW H) → Nat
  | [] => 0
  | d :: r => uptoBulk d + uptoBulkAll r
def uptoBulkEntries {H : Type} : List (Lit × DataW H) → Nat
  | [] => 0
  | x :: r => uptoBulkEntry x + uptoBulkEntries r
def uptoBulkEntry {H : Type} : Lit × DataW H → Nat
  | (.string bytes, d) => bytes.length + uptoBulk d + 1
  | (_, d) => uptoBulk d + 1
 end
def uptoSmall : (H : Type) → List (DataW H) → Bool := fun _ ds => decide (uptoBulkAll ds ≤ 1048576)
def OpenSpec.upto (s : _root_.Go.ChangeSpec) : _root_.Go.OpenSpec := { _root_.Go.OpenSpec.ofChange s with cond := some uptoSmall }

/-- 'laws.FnExactIsResponse', WHERE WHAT IT READS IS OF BULK AT MOST 1048576: true; the input reads as it did. -/
def fnExactIsResponseUptoRow : OpenClaim := { program := "ytgdjicnefdnofaadoor", sum := "b975fb7d2f304abb148cea19703c7ed07ace420a3c6ddf750707694dd20ec18a", func := "loop.example/g03012/laws.FnExactIsResponse", spec := "fnExactIsResponse", inPlace := ["internal/bytealg.IndexByteString", "internal/bytealg.IndexString"], unfollowed := true, recurses := true, named := ["unicode/utf8.first", "unicode/utf8.acceptRanges", "internal/bytealg.MaxLen"], apart := false, laid := [("unicode/utf8.acceptRanges", laid_unicode_utf8_acceptRanges), ("unicode/utf8.first", laid_unicode_utf8_first)], narrowed := true }
def FnExactIsResponseUptoSaid : Prop := fnExactIsResponseUptoRow.holds Tryd.pinned (OpenSpec.upto fnExactIsResponseSpec)

/-- 'laws.FnExactAgrees', WHERE WHAT IT READS IS OF BULK AT MOST 1048576: true; the input reads as it did. -/
def fnExactAgreesUptoRow : OpenClaim := { program := "ytgdjicnefdnofaadoor", sum := "b975fb7d2f304abb148cea19703c7ed07ace420a3c6ddf750707694dd20ec18a", func := "loop.example/g03012/laws.FnExactAgrees", spec := "fnExactAgrees", inPlace := ["internal/abi.NoEscape", "internal/bytealg.MakeNoZero", "internal/bytealg.IndexByteString", "internal/bytealg.IndexString"], named := ["unicode/utf8.first", "unicode/utf8.acceptRanges", "internal/bytealg.MaxLen"], apart := false, laid := [("unicode/utf8.acceptRanges", laid_unicode_utf8_acceptRanges), ("unicode/utf8.first", laid_unicode_utf8_first)], narrowed := true }
def FnExactAgreesUptoSaid : Prop := fnExactAgreesUptoRow.holds Tryd.pinned (OpenSpec.upto fnExactAgreesSpec)

/-- 'laws.FnQualities', WHERE WHAT IT READS IS OF BULK AT MOST 1048576: true; the input reads as it did. -/
def fnQualitiesUptoRow : OpenClaim := { program := "ytgdjicnefdnofaadoor", sum := "b975fb7d2f304abb148cea19703c7ed07ace420a3c6ddf750707694dd20ec18a", func := "loop.example/g03012/laws.FnQualities", spec := "fnQualities", inPlace := ["internal/bytealg.IndexByteString", "internal/bytealg.IndexString", "internal/bytealg.CountString"], named := ["unicode/utf8.first", "unicode/utf8.acceptRanges", "internal/bytealg.MaxLen"], apart := false, laid := [("unicode/utf8.acceptRanges", laid_unicode_utf8_acceptRanges), ("unicode/utf8.first", laid_unicode_utf8_first)], narrowed := true }
def FnQualitiesUptoSaid : Prop := fnQualitiesUptoRow.holds Tryd.pinned (OpenSpec.upto fnQualitiesSpec)

/-- 'laws.FnExactVisitorOf', WHERE WHAT IT READS IS OF BULK AT MOST 1048576: true; the input reads as it did. -/
def fnExactVisitorOfUptoRow : OpenClaim := { program := "ytgdjicnefdnofaadoor", sum := "b975fb7d2f304abb148cea19703c7ed07ace420a3c6ddf750707694dd20ec18a", func := "loop.example/g03012/laws.FnExactVisitorOf", spec := "fnExactVisitorOf", inPlace := ["internal/abi.NoEscape", "internal/bytealg.MakeNoZero", "internal/bytealg.IndexByteString", "internal/bytealg.IndexString"], named := ["unicode/utf8.first", "unicode/utf8.acceptRanges", "internal/bytealg.MaxLen"], apart := false, laid := [("unicode/utf8.acceptRanges", laid_unicode_utf8_acceptRanges), ("unicode/utf8.first", laid_unicode_utf8_first)], narrowed := true }
def FnExactVisitorOfUptoSaid : Prop := fnExactVisitorOfUptoRow.holds Tryd.pinned (OpenSpec.upto fnExactVisitorOfSpec)

/-- 'laws.FnExactVaryOf', WHERE WHAT IT READS IS OF BULK AT MOST 1048576: true; the input reads as it did. -/
def fnExactVaryOfUptoRow : OpenClaim := { program := "ytgdjicnefdnofaadoor", sum := "b975fb7d2f304abb148cea19703c7ed07ace420a3c6ddf750707694dd20ec18a", func := "loop.example/g03012/laws.FnExactVaryOf", spec := "fnExactVaryOf", inPlace := ["internal/abi.NoEscape", "internal/bytealg.MakeNoZero", "internal/bytealg.IndexByteString", "internal/bytealg.IndexString"], named := ["unicode/utf8.first", "unicode/utf8.acceptRanges", "internal/bytealg.MaxLen"], apart := false, laid := [("unicode/utf8.acceptRanges", laid_unicode_utf8_acceptRanges), ("unicode/utf8.first", laid_unicode_utf8_first)], narrowed := true }
def FnExactVaryOfUptoSaid : Prop := fnExactVaryOfUptoRow.holds Tryd.pinned (OpenSpec.upto fnExactVaryOfSpec)

/-- 'laws.FnExactParseQualities', WHERE WHAT IT READS IS OF BULK AT MOST 1048576: true; the input reads as it did. -/
def fnExactParseQualitiesUptoRow : OpenClaim := { program := "ytgdjicnefdnofaadoor", sum := "b975fb7d2f304abb148cea19703c7ed07ace420a3c6ddf750707694dd20ec18a", func := "loop.example/g03012/laws.FnExactParseQualities", spec := "fnExactParseQualities", inPlace := ["internal/bytealg.IndexByteString", "internal/bytealg.IndexString", "internal/bytealg.CountString"], named := ["unicode/utf8.first", "unicode/utf8.acceptRanges", "internal/bytealg.MaxLen"], apart := false, laid := [("unicode/utf8.acceptRanges", laid_unicode_utf8_acceptRanges), ("unicode/utf8.first", laid_unicode_utf8_first)], narrowed := true }
def FnExactParseQualitiesUptoSaid : Prop := fnExactParseQualitiesUptoRow.holds Tryd.pinned (OpenSpec.upto fnExactParseQualitiesSpec)

/-- 'laws.FnExactAgeField', WHERE WHAT IT READS IS OF BULK AT MOST 1048576: true; the input reads as it did. -/
def fnExactAgeFieldUptoRow : OpenClaim := { program := "ytgdjicnefdnofaadoor", sum := "b975fb7d2f304abb148cea19703c7ed07ace420a3c6ddf750707694dd20ec18a", func := "loop.example/g03012/laws.FnExactAgeField", spec := "fnExactAgeField", inPlace := ["internal/abi.NoEscape", "internal/bytealg.MakeNoZero"], named := ["strconv.ErrSyntax", "strconv.ErrRange", "internal/strconv.uint64pow10", "math/bits.deBruijn32tab", "math/bits.deBruijn64tab"], apart := false, laid := [("math/bits.deBruijn32tab", laid_math_bits_deBruijn32tab), ("math/bits.deBruijn64tab", laid_math_bits_deBruijn64tab), ("internal/strconv.uint64pow10", laid_internal_strconv_uint64pow10), ("strconv.ErrRange", laid_strconv_ErrRange), ("strconv.ErrSyntax", laid_strconv_ErrSyntax)], narrowed := true }
def FnExactAgeFieldUptoSaid : Prop := fnExactAgeFieldUptoRow.holds Tryd.pinned (OpenSpec.upto fnExactAgeFieldSpec)

/-- 'laws.FnExactChooseName', WHERE WHAT IT READS IS OF BULK AT MOST 1048576: true; the input reads as it did. -/
def fnExactChooseNameUptoRow : OpenClaim := { program := "ytgdjicnefdnofaadoor", sum := "b975fb7d2f304abb148cea19703c7ed07ace420a3c6ddf750707694dd20ec18a", func := "loop.example/g03012/laws.FnExactChooseName", spec := "fnExactChooseName", inPlace := ["internal/bytealg.IndexByteString", "internal/bytealg.IndexString", "internal/bytealg.CountString"], named := ["unicode/utf8.first", "unicode/utf8.acceptRanges", "internal/bytealg.MaxLen"], apart := false, laid := [("unicode/utf8.acceptRanges", laid_unicode_utf8_acceptRanges), ("unicode/utf8.first", laid_unicode_utf8_first)], narrowed := true }
def FnExactChooseNameUptoSaid : Prop := fnExactChooseNameUptoRow.holds Tryd.pinned (OpenSpec.upto fnExactChooseNameSpec)

/-- 'laws.FnExactFormatResponse', WHERE WHAT IT READS IS OF BULK AT MOST 1048576: true; the input reads as it did. -/
def fnExactFormatResponseUptoRow : OpenClaim := { program := "ytgdjicnefdnofaadoor", sum := "b975fb7d2f304abb148cea19703c7ed07ace420a3c6ddf750707694dd20ec18a", func := "loop.example/g03012/laws.FnExactFormatResponse", spec := "fnExactFormatResponse", inPlace := ["internal/bytealg.IndexByteString", "internal/bytealg.IndexString"], unfollowed := true, recurses := true, named := ["unicode/utf8.first", "unicode/utf8.acceptRanges", "internal/strconv.uint64pow10", "math/bits.deBruijn32tab", "math/bits.deBruijn64tab", "internal/bytealg.MaxLen"], apart := false, laid := [("math/bits.deBruijn32tab", laid_math_bits_deBruijn32tab), ("math/bits.deBruijn64tab", laid_math_bits_deBruijn64tab), ("internal/strconv.uint64pow10", laid_internal_strconv_uint64pow10), ("unicode/utf8.acceptRanges", laid_unicode_utf8_acceptRanges), ("unicode/utf8.first", laid_unicode_utf8_first)], narrowed := true }
def FnExactFormatResponseUptoSaid : Prop := fnExactFormatResponseUptoRow.holds Tryd.pinned (OpenSpec.upto fnExactFormatResponseSpec)

/-- 'laws.FnSelecting', WHERE WHAT IT READS IS OF BULK AT MOST 1048576: true; the input reads as it did. -/
def fnSelectingUptoRow : OpenClaim := { program := "ytgdjicnefdnofaadoor", sum := "b975fb7d2f304abb148cea19703c7ed07ace420a3c6ddf750707694dd20ec18a", func := "loop.example/g03012/laws.FnSelecting", spec := "fnSelecting", inPlace := ["internal/abi.NoEscape", "internal/bytealg.MakeNoZero", "internal/bytealg.IndexByteString", "internal/bytealg.IndexString", "internal/bytealg.CountString"], named := ["unicode/utf8.first", "unicode/utf8.acceptRanges", "internal/bytealg.MaxLen"], apart := false, laid := [("unicode/utf8.acceptRanges", laid_unicode_utf8_acceptRanges), ("unicode/utf8.first", laid_unicode_utf8_first)], narrowed := true }
def FnSelectingUptoSaid : Prop := fnSelectingUptoRow.holds Tryd.pinned (OpenSpec.upto fnSelectingSpec)

/-- 'laws.FnExactIsRequest', WHERE WHAT IT READS IS OF BULK AT MOST 1048576: true; the input reads as it did. -/
def fnExactIsRequestUptoRow : OpenClaim := { program := "ytgdjicnefdnofaadoor", sum := "b975fb7d2f304abb148cea19703c7ed07ace420a3c6ddf750707694dd20ec18a", func := "loop.example/g03012/laws.FnExactIsRequest", spec := "fnExactIsRequest", inPlace := ["internal/bytealg.IndexByteString", "internal/abi.NoEscape", "internal/bytealg.MakeNoZero", "internal/bytealg.IndexString"], unfollowed := true, recurses := true, named := ["unicode/utf8.first", "unicode/utf8.acceptRanges", "unicode.CaseRanges", "internal/bytealg.MaxLen"], apart := false, laid := [("unicode/utf8.acceptRanges", laid_unicode_utf8_acceptRanges), ("unicode.CaseRanges", laid_unicode_CaseRanges), ("unicode/utf8.first", laid_unicode_utf8_first)], narrowed := true }
def FnExactIsRequestUptoSaid : Prop := fnExactIsRequestUptoRow.holds Tryd.pinned (OpenSpec.upto fnExactIsRequestSpec)

/-- 'laws.FnExactFormatRequest', WHERE WHAT IT READS IS OF BULK AT MOST 1048576: true; the input reads as it did. -/
def fnExactFormatRequestUptoRow : OpenClaim := { program := "ytgdjicnefdnofaadoor", sum := "b975fb7d2f304abb148cea19703c7ed07ace420a3c6ddf750707694dd20ec18a", func := "loop.example/g03012/laws.FnExactFormatRequest", spec := "fnExactFormatRequest", inPlace := ["internal/bytealg.IndexByteString", "internal/abi.NoEscape", "internal/bytealg.MakeNoZero", "internal/bytealg.IndexString"], unfollowed := true, recurses := true, named := ["unicode/utf8.first", "unicode/utf8.acceptRanges", "unicode.CaseRanges", "internal/bytealg.MaxLen"], apart := false, laid := [("unicode/utf8.acceptRanges", laid_unicode_utf8_acceptRanges), ("unicode.CaseRanges", laid_unicode_CaseRanges), ("unicode/utf8.first", laid_unicode_utf8_first)], narrowed := true }
def FnExactFormatRequestUptoSaid : Prop := fnExactFormatRequestUptoRow.holds Tryd.pinned (OpenSpec.upto fnExactFormatRequestSpec)

end Rows
end Go.Proofs.YtgdjicnefdnofaaDoor
