/-
  NARROWER THAN 'FOR EVERY INPUT', by the rows' own cells (each row's printed sentence says how): DetectWidths: laid · DetectCurves: laid · DetectParted: laid · DetectNeeds: laid · DetectWorse: laid · DetectCovers: laid · DetectChances: laid · DetectConcave: laid · DetectMisses: laid · DetectRepeats: laid · DetectNames: laid.
  DERIVED. THE GIVEN ROWS OF THIS SEAT. 11 by the template 'for every input the law returns true; each argument reads behind the call as it read before'; 0 by the template 'total and deterministic' (their statements: YtcncdepjbhnknaaGreatDoorTotals.lean).
  GIVEN WITH THE SEED: the statements are not yours to turn. If you find one false, say at which input.
  Laid BY PROGRAM, IN A SANDBOX (cutbox-rows.mjs): the forced cells as the released guide's own fill.sh prints them over the translation 9dcc51126d823218… (all of the seat's roots in one cut). By AI agents, Wed Nov 11 2026. No macro, syntax, notation, axiom, sorry.
-/
import Derived.Test.YtcncdepjbhnknaaGreatDoorChecked
import GoSem.PinnedTables
import GoSem.Claim
import GoSem.ClaimJoined
import GoSem.ClaimMapViews
import Derived.JoinedTies
import Derived.KernelRfl
namespace Go.Proofs.YtcncdepjbhnknaaGreatDoor
/- THE CELL 'sum', in the pinned program and in every row, IS THE sha256 OF THE DUMP (.gsa) THAT YtcncdepjbhnknaaGreatDoorProg.lean LOADS. Nothing in Lean hashes anything: it is a label: what it is worth is what the hold of that sum in a sandbox is worth. -/
noncomputable def Tryz.pinned : Pinned := { name := "ytcncdepjbhnknaagreatdoor", sum := "9dcc51126d8232183a84854e085982680a4d4c7caf3a2c7618548f92598fc544", checked := Tryz.checked }
namespace Rows
def none {H : Type} : Left H := { results := [], args := [] }

/- WHAT THE LISTED PACKAGE-LEVEL VARIABLES READ AS WHEN THE CALL BEGINS. Each datum BY PROGRAM (the guide's laid-datum.mjs) off the statement by which the dump's own 'gosem.cut.vars' lays the variable. In a bare row this is a premise. The card (YtcncdepjbhnknaaGreatDoorCards.lean) ties it to the program's text. -/
def laid_math_bits_deBruijn32tab {H : Type} : DataW H := .agg [.lit (.int .u8 0), .lit (.int .u8 1), .lit (.int .u8 28), .lit (.int .u8 2), .lit (.int .u8 29), .lit (.int .u8 14), .lit (.int .u8 24), .lit (.int .u8 3), .lit (.int .u8 30), .lit (.int .u8 22), .lit (.int .u8 20), .lit (.int .u8 15), .lit (.int .u8 25), .lit (.int .u8 17), .lit (.int .u8 4), .lit (.int .u8 8), .lit (.int .u8 31), .lit (.int .u8 27), .lit (.int .u8 13), .lit (.int .u8 23), .lit (.int .u8 21), .lit (.int .u8 19), .lit (.int .u8 16), .lit (.int .u8 7), .lit (.int .u8 26), .lit (.int .u8 12), .lit (.int .u8 18), .lit (.int .u8 6), .lit (.int .u8 11), .lit (.int .u8 5), .lit (.int .u8 10), .lit (.int .u8 9)]
def laid_math_bits_deBruijn64tab {H : Type} : DataW H := .agg [.lit (.int .u8 0), .lit (.int .u8 1), .lit (.int .u8 56), .lit (.int .u8 2), .lit (.int .u8 57), .lit (.int .u8 49), .lit (.int .u8 28), .lit (.int .u8 3), .lit (.int .u8 61), .lit (.int .u8 58), .lit (.int .u8 42), .lit (.int .u8 50), .lit (.int .u8 38), .lit (.int .u8 29), .lit (.int .u8 17), .lit (.int .u8 4), .lit (.int .u8 62), .lit (.int .u8 47), .lit (.int .u8 59), .lit (.int .u8 36), .lit (.int .u8 45), .lit (.int .u8 43), .lit (.int .u8 51), .lit (.int .u8 22), .lit (.int .u8 53), .lit (.int .u8 39), .lit (.int .u8 33), .lit (.int .u8 30), .lit (.int .u8 24), .lit (.int .u8 18), .lit (.int .u8 12), .lit (.int .u8 5), .lit (.int .u8 63), .lit (.int .u8 55), .lit (.int .u8 48), .lit (.int .u8 27), .lit (.int .u8 60), .lit (.int .u8 41), .lit (.int .u8 37), .lit (.int .u8 16), .lit (.int .u8 46), .lit (.int .u8 35), .lit (.int .u8 44), .lit (.int .u8 21), .lit (.int .u8 52), .lit (.int .u8 32), .lit (.int .u8 23), .lit (.int .u8 11), .lit (.int .u8 54), .lit (.int .u8 26), .lit (.int .u8 40), .lit (.int .u8 15), .lit (.int .u8 34), .lit (.int .u8 20), .lit (.int .u8 31), .lit (.int .u8 10), .lit (.int .u8 25), .lit (.int .u8 14), .lit (.int .u8 19), .lit (.int .u8 9), .lit (.int .u8 13), .lit (.int .u8 8), .lit (.int .u8 7), .lit (.int .u8 6)]
def laid_internal_strconv_uint64pow10 {H : Type} : DataW H := .agg [.lit (.int .u64 1), .lit (.int .u64 10), .lit (.int .u64 100), .lit (.int .u64 1000), .lit (.int .u64 10000), .lit (.int .u64 100000), .lit (.int .u64 1000000), .lit (.int .u64 10000000), .lit (.int .u64 100000000), .lit (.int .u64 1000000000), .lit (.int .u64 10000000000), .lit (.int .u64 100000000000), .lit (.int .u64 1000000000000), .lit (.int .u64 10000000000000), .lit (.int .u64 100000000000000), .lit (.int .u64 1000000000000000), .lit (.int .u64 10000000000000000), .lit (.int .u64 100000000000000000), .lit (.int .u64 1000000000000000000), .lit (.int .u64 10000000000000000000)]
def laid_unicode_utf8_acceptRanges {H : Type} : DataW H := .agg [.agg [.lit (.int .u8 128), .lit (.int .u8 191)], .agg [.lit (.int .u8 160), .lit (.int .u8 191)], .agg [.lit (.int .u8 128), .lit (.int .u8 159)], .agg [.lit (.int .u8 144), .lit (.int .u8 191)], .agg [.lit (.int .u8 128), .lit (.int .u8 143)], .agg [.lit (.int .u8 0), .lit (.int .u8 0)], .agg [.lit (.int .u8 0), .lit (.int .u8 0)], .agg [.lit (.int .u8 0), .lit (.int .u8 0)], .agg [.lit (.int .u8 0), .lit (.int .u8 0)], .agg [.lit (.int .u8 0), .lit (.int .u8 0)], .agg [.lit (.int .u8 0), .lit (.int .u8 0)], .agg [.lit (.int .u8 0), .lit (.int .u8 0)], .agg [.lit (.int .u8 0), .lit (.int .u8 0)], .agg [.lit (.int .u8 0), .lit (.int .u8 0)], .agg [.lit (.int .u8 0), .lit (.int .u8 0)], .agg [.lit (.int .u8 0), .lit (.int .u8 0)]]
def laid_strconv_ErrRange {H : Type} : DataW H := .iface "*errors.errorString" (.ptr (.agg [.lit (.string [118, 97, 108, 117, 101, 32, 111, 117, 116, 32, 111, 102, 32, 114, 97, 110, 103, 101])]))
def laid_strconv_ErrSyntax {H : Type} : DataW H := .iface "*errors.errorString" (.ptr (.agg [.lit (.string [105, 110, 118, 97, 108, 105, 100, 32, 115, 121, 110, 116, 97, 120])]))
def laid_cresset_detect_zero {H : Type} : DataW H := .agg [.lit (.string [48]), .lit (.string [49])]
def laid_cresset_detect_one {H : Type} : DataW H := .agg [.lit (.string [49]), .lit (.string [49])]
/-- One of Go's own tables, pinned by name: the form's constant. -/
def laid_unicode_utf8_first : DataW Unit := Go.Pinned.utf8First

/-- 'cressetlaw06.DetectWidths': WHATEVER THE INPUT: true; the input reads as it did. -/
def detectWidthsSpec : ChangeSpec := { name := "detectWidths", fn := fun _ => fun
  | [d1, d2, d3, d4, d5] => { results := [.lit (.bool true)], args := [d1, d2, d3, d4, d5] }
  | _ => none }
def detectWidthsRow : OpenClaim := { program := "ytcncdepjbhnknaagreatdoor", sum := "9dcc51126d8232183a84854e085982680a4d4c7caf3a2c7618548f92598fc544", func := "cresset/cressetlaw06.DetectWidths", spec := "detectWidths", inPlace := ["internal/bytealg.IndexByteString", "internal/bytealg.IndexString", "math/bits.Add64", "internal/abi.NoEscape", "internal/bytealg.MakeNoZero"], unfollowed := true, recurses := true, named := ["cresset/detect.zero", "internal/strconv.uint64pow10", "math/bits.deBruijn32tab", "math/bits.deBruijn64tab", "unicode/utf8.first", "unicode/utf8.acceptRanges", "strconv.ErrSyntax", "strconv.ErrRange", "cresset/detect.one", "internal/bytealg.MaxLen"], plainKeys := false, apart := false, laid := [("math/bits.deBruijn32tab", laid_math_bits_deBruijn32tab), ("math/bits.deBruijn64tab", laid_math_bits_deBruijn64tab), ("internal/strconv.uint64pow10", laid_internal_strconv_uint64pow10), ("unicode/utf8.acceptRanges", laid_unicode_utf8_acceptRanges), ("strconv.ErrRange", laid_strconv_ErrRange), ("strconv.ErrSyntax", laid_strconv_ErrSyntax), ("cresset/detect.zero", laid_cresset_detect_zero), ("cresset/detect.one", laid_cresset_detect_one), ("unicode/utf8.first", laid_unicode_utf8_first)] }
def DetectWidthsSaid : Prop := detectWidthsRow.holds Tryz.pinned (OpenSpec.ofChange detectWidthsSpec)

/-- ITS FALSE NEIGHBOUR: 'it returns false'. Refute it at one input. -/
def detectWidthsWrong : ChangeSpec := { name := "detectWidths", fn := fun _ => fun
  | [d1, d2, d3, d4, d5] => { results := [.lit (.bool false)], args := [d1, d2, d3, d4, d5] }
  | _ => none }
def DetectWidthsWrongFalsely : Prop := detectWidthsRow.holds Tryz.pinned (OpenSpec.ofChange detectWidthsWrong)

/-- 'cressetlaw06.DetectCurves': WHATEVER THE INPUT: true; the input reads as it did. -/
def detectCurvesSpec : ChangeSpec := { name := "detectCurves", fn := fun _ => fun
  | [d1, d2] => { results := [.lit (.bool true)], args := [d1, d2] }
  | _ => none }
def detectCurvesRow : OpenClaim := { program := "ytcncdepjbhnknaagreatdoor", sum := "9dcc51126d8232183a84854e085982680a4d4c7caf3a2c7618548f92598fc544", func := "cresset/cressetlaw06.DetectCurves", spec := "detectCurves", inPlace := ["internal/bytealg.IndexByteString", "internal/bytealg.IndexString", "math/bits.Add64", "internal/abi.NoEscape", "internal/bytealg.MakeNoZero"], unfollowed := true, recurses := true, named := ["cresset/detect.zero", "internal/strconv.uint64pow10", "math/bits.deBruijn32tab", "math/bits.deBruijn64tab", "unicode/utf8.first", "unicode/utf8.acceptRanges", "strconv.ErrSyntax", "strconv.ErrRange", "cresset/detect.one", "internal/bytealg.MaxLen"], plainKeys := false, apart := false, laid := [("math/bits.deBruijn32tab", laid_math_bits_deBruijn32tab), ("math/bits.deBruijn64tab", laid_math_bits_deBruijn64tab), ("internal/strconv.uint64pow10", laid_internal_strconv_uint64pow10), ("unicode/utf8.acceptRanges", laid_unicode_utf8_acceptRanges), ("strconv.ErrRange", laid_strconv_ErrRange), ("strconv.ErrSyntax", laid_strconv_ErrSyntax), ("cresset/detect.zero", laid_cresset_detect_zero), ("cresset/detect.one", laid_cresset_detect_one), ("unicode/utf8.first", laid_unicode_utf8_first)] }
def DetectCurvesSaid : Prop := detectCurvesRow.holds Tryz.pinned (OpenSpec.ofChange detectCurvesSpec)

/-- ITS FALSE NEIGHBOUR: 'it returns false'. Refute it at one input. -/
def detectCurvesWrong : ChangeSpec := { name := "detectCurves", fn := fun _ => fun
  | [d1, d2] => { results := [.lit (.bool false)], args := [d1, d2] }
  | _ => none }
def DetectCurvesWrongFalsely : Prop := detectCurvesRow.holds Tryz.pinned (OpenSpec.ofChange detectCurvesWrong)

/-- 'cressetlaw06.DetectParted': WHATEVER THE INPUT: true; the input reads as it did. -/
def detectPartedSpec : ChangeSpec := { name := "detectParted", fn := fun _ => fun
  | [d1, d2, d3] => { results := [.lit (.bool true)], args := [d1, d2, d3] }
  | _ => none }
def detectPartedRow : OpenClaim := { program := "ytcncdepjbhnknaagreatdoor", sum := "9dcc51126d8232183a84854e085982680a4d4c7caf3a2c7618548f92598fc544", func := "cresset/cressetlaw06.DetectParted", spec := "detectParted", inPlace := ["internal/bytealg.IndexByteString", "internal/bytealg.IndexString", "math/bits.Add64", "internal/abi.NoEscape", "internal/bytealg.MakeNoZero"], unfollowed := true, recurses := true, named := ["cresset/detect.zero", "internal/strconv.uint64pow10", "math/bits.deBruijn32tab", "math/bits.deBruijn64tab", "unicode/utf8.first", "unicode/utf8.acceptRanges", "strconv.ErrSyntax", "strconv.ErrRange", "cresset/detect.one", "internal/bytealg.MaxLen"], plainKeys := false, apart := false, laid := [("math/bits.deBruijn32tab", laid_math_bits_deBruijn32tab), ("math/bits.deBruijn64tab", laid_math_bits_deBruijn64tab), ("internal/strconv.uint64pow10", laid_internal_strconv_uint64pow10), ("unicode/utf8.acceptRanges", laid_unicode_utf8_acceptRanges), ("strconv.ErrRange", laid_strconv_ErrRange), ("strconv.ErrSyntax", laid_strconv_ErrSyntax), ("cresset/detect.zero", laid_cresset_detect_zero), ("cresset/detect.one", laid_cresset_detect_one), ("unicode/utf8.first", laid_unicode_utf8_first)] }
def DetectPartedSaid : Prop := detectPartedRow.holds Tryz.pinned (OpenSpec.ofChange detectPartedSpec)

/-- ITS FALSE NEIGHBOUR: 'it returns false'. Refute it at one input. -/
def detectPartedWrong : ChangeSpec := { name := "detectParted", fn := fun _ => fun
  | [d1, d2, d3] => { results := [.lit (.bool false)], args := [d1, d2, d3] }
  | _ => none }
def DetectPartedWrongFalsely : Prop := detectPartedRow.holds Tryz.pinned (OpenSpec.ofChange detectPartedWrong)

/-- 'cressetlaw06.DetectNeeds': WHATEVER THE INPUT: true; the input reads as it did. -/
def detectNeedsSpec : ChangeSpec := { name := "detectNeeds", fn := fun _ => fun
  | [d1, d2, d3] => { results := [.lit (.bool true)], args := [d1, d2, d3] }
  | _ => none }
def detectNeedsRow : OpenClaim := { program := "ytcncdepjbhnknaagreatdoor", sum := "9dcc51126d8232183a84854e085982680a4d4c7caf3a2c7618548f92598fc544", func := "cresset/cressetlaw06.DetectNeeds", spec := "detectNeeds", inPlace := ["internal/bytealg.IndexByteString", "internal/bytealg.IndexString", "math/bits.Add64", "internal/abi.NoEscape", "internal/bytealg.MakeNoZero"], unfollowed := true, recurses := true, named := ["cresset/detect.zero", "internal/strconv.uint64pow10", "math/bits.deBruijn32tab", "math/bits.deBruijn64tab", "unicode/utf8.first", "unicode/utf8.acceptRanges", "strconv.ErrSyntax", "strconv.ErrRange", "cresset/detect.one", "internal/bytealg.MaxLen"], plainKeys := false, apart := false, laid := [("math/bits.deBruijn32tab", laid_math_bits_deBruijn32tab), ("math/bits.deBruijn64tab", laid_math_bits_deBruijn64tab), ("internal/strconv.uint64pow10", laid_internal_strconv_uint64pow10), ("unicode/utf8.acceptRanges", laid_unicode_utf8_acceptRanges), ("strconv.ErrRange", laid_strconv_ErrRange), ("strconv.ErrSyntax", laid_strconv_ErrSyntax), ("cresset/detect.zero", laid_cresset_detect_zero), ("cresset/detect.one", laid_cresset_detect_one), ("unicode/utf8.first", laid_unicode_utf8_first)] }
def DetectNeedsSaid : Prop := detectNeedsRow.holds Tryz.pinned (OpenSpec.ofChange detectNeedsSpec)

/-- ITS FALSE NEIGHBOUR: 'it returns false'. Refute it at one input. -/
def detectNeedsWrong : ChangeSpec := { name := "detectNeeds", fn := fun _ => fun
  | [d1, d2, d3] => { results := [.lit (.bool false)], args := [d1, d2, d3] }
  | _ => none }
def DetectNeedsWrongFalsely : Prop := detectNeedsRow.holds Tryz.pinned (OpenSpec.ofChange detectNeedsWrong)

/-- 'cressetlaw06.DetectWorse': WHATEVER THE INPUT: true; the input reads as it did. -/
def detectWorseSpec : ChangeSpec := { name := "detectWorse", fn := fun _ => fun
  | [d1, d2, d3, d4, d5] => { results := [.lit (.bool true)], args := [d1, d2, d3, d4, d5] }
  | _ => none }
def detectWorseRow : OpenClaim := { program := "ytcncdepjbhnknaagreatdoor", sum := "9dcc51126d8232183a84854e085982680a4d4c7caf3a2c7618548f92598fc544", func := "cresset/cressetlaw06.DetectWorse", spec := "detectWorse", inPlace := ["internal/bytealg.IndexByteString", "internal/bytealg.IndexString", "math/bits.Add64", "internal/abi.NoEscape", "internal/bytealg.MakeNoZero"], unfollowed := true, recurses := true, named := ["cresset/detect.zero", "internal/strconv.uint64pow10", "math/bits.deBruijn32tab", "math/bits.deBruijn64tab", "unicode/utf8.first", "unicode/utf8.acceptRanges", "strconv.ErrSyntax", "strconv.ErrRange", "cresset/detect.one", "internal/bytealg.MaxLen"], plainKeys := false, apart := false, laid := [("math/bits.deBruijn32tab", laid_math_bits_deBruijn32tab), ("math/bits.deBruijn64tab", laid_math_bits_deBruijn64tab), ("internal/strconv.uint64pow10", laid_internal_strconv_uint64pow10), ("unicode/utf8.acceptRanges", laid_unicode_utf8_acceptRanges), ("strconv.ErrRange", laid_strconv_ErrRange), ("strconv.ErrSyntax", laid_strconv_ErrSyntax), ("cresset/detect.zero", laid_cresset_detect_zero), ("cresset/detect.one", laid_cresset_detect_one), ("unicode/utf8.first", laid_unicode_utf8_first)] }
def DetectWorseSaid : Prop := detectWorseRow.holds Tryz.pinned (OpenSpec.ofChange detectWorseSpec)

/-- ITS FALSE NEIGHBOUR: 'it returns false'. Refute it at one input. -/
def detectWorseWrong : ChangeSpec := { name := "detectWorse", fn := fun _ => fun
  | [d1, d2, d3, d4, d5] => { results := [.lit (.bool false)], args := [d1, d2, d3, d4, d5] }
  | _ => none }
def DetectWorseWrongFalsely : Prop := detectWorseRow.holds Tryz.pinned (OpenSpec.ofChange detectWorseWrong)

/-- 'cressetlaw06.DetectCovers': WHATEVER THE INPUT: true; the input reads as it did. -/
def detectCoversSpec : ChangeSpec := { name := "detectCovers", fn := fun _ => fun
  | [d1, d2, d3, d4] => { results := [.lit (.bool true)], args := [d1, d2, d3, d4] }
  | _ => none }
def detectCoversRow : OpenClaim := { program := "ytcncdepjbhnknaagreatdoor", sum := "9dcc51126d8232183a84854e085982680a4d4c7caf3a2c7618548f92598fc544", func := "cresset/cressetlaw06.DetectCovers", spec := "detectCovers", inPlace := ["internal/bytealg.IndexByteString", "internal/bytealg.IndexString", "math/bits.Add64", "internal/abi.NoEscape", "internal/bytealg.MakeNoZero"], unfollowed := true, recurses := true, named := ["internal/strconv.uint64pow10", "math/bits.deBruijn32tab", "math/bits.deBruijn64tab", "unicode/utf8.first", "unicode/utf8.acceptRanges", "strconv.ErrSyntax", "strconv.ErrRange", "cresset/detect.zero", "cresset/detect.one", "internal/bytealg.MaxLen"], plainKeys := false, apart := false, laid := [("math/bits.deBruijn32tab", laid_math_bits_deBruijn32tab), ("math/bits.deBruijn64tab", laid_math_bits_deBruijn64tab), ("internal/strconv.uint64pow10", laid_internal_strconv_uint64pow10), ("unicode/utf8.acceptRanges", laid_unicode_utf8_acceptRanges), ("strconv.ErrRange", laid_strconv_ErrRange), ("strconv.ErrSyntax", laid_strconv_ErrSyntax), ("cresset/detect.zero", laid_cresset_detect_zero), ("cresset/detect.one", laid_cresset_detect_one), ("unicode/utf8.first", laid_unicode_utf8_first)] }
def DetectCoversSaid : Prop := detectCoversRow.holds Tryz.pinned (OpenSpec.ofChange detectCoversSpec)

/-- ITS FALSE NEIGHBOUR: 'it returns false'. Refute it at one input. -/
def detectCoversWrong : ChangeSpec := { name := "detectCovers", fn := fun _ => fun
  | [d1, d2, d3, d4] => { results := [.lit (.bool false)], args := [d1, d2, d3, d4] }
  | _ => none }
def DetectCoversWrongFalsely : Prop := detectCoversRow.holds Tryz.pinned (OpenSpec.ofChange detectCoversWrong)

/-- 'cressetlaw06.DetectChances': WHATEVER THE INPUT: true; the input reads as it did. -/
def detectChancesSpec : ChangeSpec := { name := "detectChances", fn := fun _ => fun
  | [d1, d2, d3] => { results := [.lit (.bool true)], args := [d1, d2, d3] }
  | _ => none }
def detectChancesRow : OpenClaim := { program := "ytcncdepjbhnknaagreatdoor", sum := "9dcc51126d8232183a84854e085982680a4d4c7caf3a2c7618548f92598fc544", func := "cresset/cressetlaw06.DetectChances", spec := "detectChances", inPlace := ["internal/bytealg.IndexByteString", "internal/bytealg.IndexString", "math/bits.Add64", "internal/abi.NoEscape", "internal/bytealg.MakeNoZero"], unfollowed := true, recurses := true, named := ["cresset/detect.zero", "internal/strconv.uint64pow10", "math/bits.deBruijn32tab", "math/bits.deBruijn64tab", "unicode/utf8.first", "unicode/utf8.acceptRanges", "strconv.ErrSyntax", "strconv.ErrRange", "cresset/detect.one", "internal/bytealg.MaxLen"], plainKeys := false, apart := false, laid := [("math/bits.deBruijn32tab", laid_math_bits_deBruijn32tab), ("math/bits.deBruijn64tab", laid_math_bits_deBruijn64tab), ("internal/strconv.uint64pow10", laid_internal_strconv_uint64pow10), ("unicode/utf8.acceptRanges", laid_unicode_utf8_acceptRanges), ("strconv.ErrRange", laid_strconv_ErrRange), ("strconv.ErrSyntax", laid_strconv_ErrSyntax), ("cresset/detect.zero", laid_cresset_detect_zero), ("cresset/detect.one", laid_cresset_detect_one), ("unicode/utf8.first", laid_unicode_utf8_first)] }
def DetectChancesSaid : Prop := detectChancesRow.holds Tryz.pinned (OpenSpec.ofChange detectChancesSpec)

/-- ITS FALSE NEIGHBOUR: 'it returns false'. Refute it at one input. -/
def detectChancesWrong : ChangeSpec := { name := "detectChances", fn := fun _ => fun
  | [d1, d2, d3] => { results := [.lit (.bool false)], args := [d1, d2, d3] }
  | _ => none }
def DetectChancesWrongFalsely : Prop := detectChancesRow.holds Tryz.pinned (OpenSpec.ofChange detectChancesWrong)

/-- 'cressetlaw06.DetectConcave': WHATEVER THE INPUT: true; the input reads as it did. -/
def detectConcaveSpec : ChangeSpec := { name := "detectConcave", fn := fun _ => fun
  | [d1, d2, d3] => { results := [.lit (.bool true)], args := [d1, d2, d3] }
  | _ => none }
def detectConcaveRow : OpenClaim := { program := "ytcncdepjbhnknaagreatdoor", sum := "9dcc51126d8232183a84854e085982680a4d4c7caf3a2c7618548f92598fc544", func := "cresset/cressetlaw06.DetectConcave", spec := "detectConcave", inPlace := ["internal/bytealg.IndexByteString", "internal/bytealg.IndexString", "math/bits.Add64", "internal/abi.NoEscape", "internal/bytealg.MakeNoZero"], unfollowed := true, recurses := true, named := ["cresset/detect.zero", "internal/strconv.uint64pow10", "math/bits.deBruijn32tab", "math/bits.deBruijn64tab", "unicode/utf8.first", "unicode/utf8.acceptRanges", "strconv.ErrSyntax", "strconv.ErrRange", "cresset/detect.one", "internal/bytealg.MaxLen"], plainKeys := false, apart := false, laid := [("math/bits.deBruijn32tab", laid_math_bits_deBruijn32tab), ("math/bits.deBruijn64tab", laid_math_bits_deBruijn64tab), ("internal/strconv.uint64pow10", laid_internal_strconv_uint64pow10), ("unicode/utf8.acceptRanges", laid_unicode_utf8_acceptRanges), ("strconv.ErrRange", laid_strconv_ErrRange), ("strconv.ErrSyntax", laid_strconv_ErrSyntax), ("cresset/detect.zero", laid_cresset_detect_zero), ("cresset/detect.one", laid_cresset_detect_one), ("unicode/utf8.first", laid_unicode_utf8_first)] }
def DetectConcaveSaid : Prop := detectConcaveRow.holds Tryz.pinned (OpenSpec.ofChange detectConcaveSpec)

/-- ITS FALSE NEIGHBOUR: 'it returns false'. Refute it at one input. -/
def detectConcaveWrong : ChangeSpec := { name := "detectConcave", fn := fun _ => fun
  | [d1, d2, d3] => { results := [.lit (.bool false)], args := [d1, d2, d3] }
  | _ => none }
def DetectConcaveWrongFalsely : Prop := detectConcaveRow.holds Tryz.pinned (OpenSpec.ofChange detectConcaveWrong)

/-- 'cressetlaw06.DetectMisses': WHATEVER THE INPUT: true; the input reads as it did. -/
def detectMissesSpec : ChangeSpec := { name := "detectMisses", fn := fun _ => fun
  | [d1, d2] => { results := [.lit (.bool true)], args := [d1, d2] }
  | _ => none }
def detectMissesRow : OpenClaim := { program := "ytcncdepjbhnknaagreatdoor", sum := "9dcc51126d8232183a84854e085982680a4d4c7caf3a2c7618548f92598fc544", func := "cresset/cressetlaw06.DetectMisses", spec := "detectMisses", inPlace := ["internal/bytealg.IndexByteString", "internal/bytealg.IndexString", "math/bits.Add64", "internal/abi.NoEscape", "internal/bytealg.MakeNoZero"], unfollowed := true, recurses := true, named := ["cresset/detect.zero", "internal/strconv.uint64pow10", "math/bits.deBruijn32tab", "math/bits.deBruijn64tab", "unicode/utf8.first", "unicode/utf8.acceptRanges", "strconv.ErrSyntax", "strconv.ErrRange", "cresset/detect.one", "internal/bytealg.MaxLen"], plainKeys := false, apart := false, laid := [("math/bits.deBruijn32tab", laid_math_bits_deBruijn32tab), ("math/bits.deBruijn64tab", laid_math_bits_deBruijn64tab), ("internal/strconv.uint64pow10", laid_internal_strconv_uint64pow10), ("unicode/utf8.acceptRanges", laid_unicode_utf8_acceptRanges), ("strconv.ErrRange", laid_strconv_ErrRange), ("strconv.ErrSyntax", laid_strconv_ErrSyntax), ("cresset/detect.zero", laid_cresset_detect_zero), ("cresset/detect.one", laid_cresset_detect_one), ("unicode/utf8.first", laid_unicode_utf8_first)] }
def DetectMissesSaid : Prop := detectMissesRow.holds Tryz.pinned (OpenSpec.ofChange detectMissesSpec)

/-- ITS FALSE NEIGHBOUR: 'it returns false'. Refute it at one input. -/
def detectMissesWrong : ChangeSpec := { name := "detectMisses", fn := fun _ => fun
  | [d1, d2] => { results := [.lit (.bool false)], args := [d1, d2] }
  | _ => none }
def DetectMissesWrongFalsely : Prop := detectMissesRow.holds Tryz.pinned (OpenSpec.ofChange detectMissesWrong)

/-- 'cressetlaw06.DetectRepeats': WHATEVER THE INPUT: true; the input reads as it did. -/
def detectRepeatsSpec : ChangeSpec := { name := "detectRepeats", fn := fun _ => fun
  | [d1, d2, d3, d4] => { results := [.lit (.bool true)], args := [d1, d2, d3, d4] }
  | _ => none }
def detectRepeatsRow : OpenClaim := { program := "ytcncdepjbhnknaagreatdoor", sum := "9dcc51126d8232183a84854e085982680a4d4c7caf3a2c7618548f92598fc544", func := "cresset/cressetlaw06.DetectRepeats", spec := "detectRepeats", inPlace := ["internal/bytealg.IndexByteString", "internal/bytealg.IndexString", "math/bits.Add64", "internal/abi.NoEscape", "internal/bytealg.MakeNoZero"], unfollowed := true, recurses := true, named := ["cresset/detect.zero", "internal/strconv.uint64pow10", "math/bits.deBruijn32tab", "math/bits.deBruijn64tab", "unicode/utf8.first", "unicode/utf8.acceptRanges", "strconv.ErrSyntax", "strconv.ErrRange", "cresset/detect.one", "internal/bytealg.MaxLen"], plainKeys := false, apart := false, laid := [("math/bits.deBruijn32tab", laid_math_bits_deBruijn32tab), ("math/bits.deBruijn64tab", laid_math_bits_deBruijn64tab), ("internal/strconv.uint64pow10", laid_internal_strconv_uint64pow10), ("unicode/utf8.acceptRanges", laid_unicode_utf8_acceptRanges), ("strconv.ErrRange", laid_strconv_ErrRange), ("strconv.ErrSyntax", laid_strconv_ErrSyntax), ("cresset/detect.zero", laid_cresset_detect_zero), ("cresset/detect.one", laid_cresset_detect_one), ("unicode/utf8.first", laid_unicode_utf8_first)] }
def DetectRepeatsSaid : Prop := detectRepeatsRow.holds Tryz.pinned (OpenSpec.ofChange detectRepeatsSpec)

/-- ITS FALSE NEIGHBOUR: 'it returns false'. Refute it at one input. -/
def detectRepeatsWrong : ChangeSpec := { name := "detectRepeats", fn := fun _ => fun
  | [d1, d2, d3, d4] => { results := [.lit (.bool false)], args := [d1, d2, d3, d4] }
  | _ => none }
def DetectRepeatsWrongFalsely : Prop := detectRepeatsRow.holds Tryz.pinned (OpenSpec.ofChange detectRepeatsWrong)

/-- 'cressetlaw06.DetectNames': WHATEVER THE INPUT: true; the input reads as it did. -/
def detectNamesSpec : ChangeSpec := { name := "detectNames", fn := fun _ => fun
  | [] => { results := [.lit (.bool true)], args := [] }
  | _ => none }
def detectNamesRow : OpenClaim := { program := "ytcncdepjbhnknaagreatdoor", sum := "9dcc51126d8232183a84854e085982680a4d4c7caf3a2c7618548f92598fc544", func := "cresset/cressetlaw06.DetectNames", spec := "detectNames", inPlace := ["internal/bytealg.IndexByteString", "internal/bytealg.IndexString", "math/bits.Add64", "internal/abi.NoEscape", "internal/bytealg.MakeNoZero"], unfollowed := true, recurses := true, named := ["internal/strconv.uint64pow10", "math/bits.deBruijn32tab", "math/bits.deBruijn64tab", "unicode/utf8.first", "unicode/utf8.acceptRanges", "strconv.ErrSyntax", "strconv.ErrRange", "cresset/detect.zero", "cresset/detect.one", "internal/bytealg.MaxLen"], plainKeys := false, apart := false, laid := [("math/bits.deBruijn32tab", laid_math_bits_deBruijn32tab), ("math/bits.deBruijn64tab", laid_math_bits_deBruijn64tab), ("internal/strconv.uint64pow10", laid_internal_strconv_uint64pow10), ("unicode/utf8.acceptRanges", laid_unicode_utf8_acceptRanges), ("strconv.ErrRange", laid_strconv_ErrRange), ("strconv.ErrSyntax", laid_strconv_ErrSyntax), ("cresset/detect.zero", laid_cresset_detect_zero), ("cresset/detect.one", laid_cresset_detect_one), ("unicode/utf8.first", laid_unicode_utf8_first)] }
def DetectNamesSaid : Prop := detectNamesRow.holds Tryz.pinned (OpenSpec.ofChange detectNamesSpec)

/-- ITS FALSE NEIGHBOUR: 'it returns false'. Refute it at one input. -/
def detectNamesWrong : ChangeSpec := { name := "detectNames", fn := fun _ => fun
  | [] => { results := [.lit (.bool false)], args := [] }
  | _ => none }
def DetectNamesWrongFalsely : Prop := detectNamesRow.holds Tryz.pinned (OpenSpec.ofChange detectNamesWrong)

/- THE SECOND FORM. 'bulk': how many values and letters a reading holds, each counted each time it is reached (what is shared counts as often as it is met; a slice's spare places count too). A statement '..UptoSaid' is the law's where the arguments, and the package variables that the reading takes, are together of bulk at most 1048576: NARROWER than '..Said'. Prove '..Said' where nothing that the law and all that it calls make is longer than what came in: it says more and counts as full. Else prove '..UptoSaid'. A law counts once. -/
mutual
def uptoBulk {H : Type} : DataW H → Nat
  | .lit (.string bytes) => bytes.length + 1
  | .lit _ => 1
  | .nil => 1
  | .ptr d => uptoBulk d + 1
  | .slice elems spare => uptoBulkAll elems + uptoBulkAll spare + 1
  | .agg parts => uptoBulkAll parts + 1
  | .iface _ d => uptoBulk d + 1
  | .map entries => uptoBulkEntries entries + 1
  | .held _ => 1
def uptoBulkAll {H : Type} : List (DataW H) → Nat
  | [] => 0
  | d :: r => uptoBulk d + uptoBulkAll r
def uptoBulkEntries {H : Type} : List (Lit × DataW H) → Nat
  | [] => 0
  | x :: r => uptoBulkEntry x + uptoBulkEntries r
def uptoBulkEntry {H : Type} : Lit × DataW H → Nat
  | (.string bytes, d) => bytes.length + uptoBulk d + 1
  | (_, d) => uptoBulk d + 1
 end
def uptoSmall : (H : Type) → List (DataW H) → Bool := fun _ ds => decide (uptoBulkAll ds ≤ 1048576)
def OpenSpec.upto (s : _root_.Go.ChangeSpec) : _root_.Go.OpenSpec := { _root_.Go.OpenSpec.ofChange s with cond := some uptoSmall }

/-- 'cressetlaw06.DetectWidths', WHERE WHAT IT READS IS OF BULK AT MOST 1048576: true; the input reads as it did. -/
def detectWidthsUptoRow : OpenClaim := { program := "ytcncdepjbhnknaagreatdoor", sum := "9dcc51126d8232183a84854e085982680a4d4c7caf3a2c7618548f92598fc544", func := "cresset/cressetlaw06.DetectWidths", spec := "detectWidths", inPlace := ["internal/bytealg.IndexByteString", "internal/bytealg.IndexString", "math/bits.Add64", "internal/abi.NoEscape", "internal/bytealg.MakeNoZero"], unfollowed := true, recurses := true, named := ["cresset/detect.zero", "internal/strconv.uint64pow10", "math/bits.deBruijn32tab", "math/bits.deBruijn64tab", "unicode/utf8.first", "unicode/utf8.acceptRanges", "strconv.ErrSyntax", "strconv.ErrRange", "cresset/detect.one", "internal/bytealg.MaxLen"], plainKeys := false, apart := false, laid := [("math/bits.deBruijn32tab", laid_math_bits_deBruijn32tab), ("math/bits.deBruijn64tab", laid_math_bits_deBruijn64tab), ("internal/strconv.uint64pow10", laid_internal_strconv_uint64pow10), ("unicode/utf8.acceptRanges", laid_unicode_utf8_acceptRanges), ("strconv.ErrRange", laid_strconv_ErrRange), ("strconv.ErrSyntax", laid_strconv_ErrSyntax), ("cresset/detect.zero", laid_cresset_detect_zero), ("cresset/detect.one", laid_cresset_detect_one), ("unicode/utf8.first", laid_unicode_utf8_first)], narrowed := true }
def DetectWidthsUptoSaid : Prop := detectWidthsUptoRow.holds Tryz.pinned (OpenSpec.upto detectWidthsSpec)

/-- 'cressetlaw06.DetectCurves', WHERE WHAT IT READS IS OF BULK AT MOST 1048576: true; the input reads as it did. -/
def detectCurvesUptoRow : OpenClaim := { program := "ytcncdepjbhnknaagreatdoor", sum := "9dcc51126d8232183a84854e085982680a4d4c7caf3a2c7618548f92598fc544", func := "cresset/cressetlaw06.DetectCurves", spec := "detectCurves", inPlace := ["internal/bytealg.IndexByteString", "internal/bytealg.IndexString", "math/bits.Add64", "internal/abi.NoEscape", "internal/bytealg.MakeNoZero"], unfollowed := true, recurses := true, named := ["cresset/detect.zero", "internal/strconv.uint64pow10", "math/bits.deBruijn32tab", "math/bits.deBruijn64tab", "unicode/utf8.first", "unicode/utf8.acceptRanges", "strconv.ErrSyntax", "strconv.ErrRange", "cresset/detect.one", "internal/bytealg.MaxLen"], plainKeys := false, apart := false, laid := [("math/bits.deBruijn32tab", laid_math_bits_deBruijn32tab), ("math/bits.deBruijn64tab", laid_math_bits_deBruijn64tab), ("internal/strconv.uint64pow10", laid_internal_strconv_uint64pow10), ("unicode/utf8.acceptRanges", laid_unicode_utf8_acceptRanges), ("strconv.ErrRange", laid_strconv_ErrRange), ("strconv.ErrSyntax", laid_strconv_ErrSyntax), ("cresset/detect.zero", laid_cresset_detect_zero), ("cresset/detect.one", laid_cresset_detect_one), ("unicode/utf8.first", laid_unicode_utf8_first)], narrowed := true }
def DetectCurvesUptoSaid : Prop := detectCurvesUptoRow.holds Tryz.pinned (OpenSpec.upto detectCurvesSpec)

/-- 'cressetlaw06.DetectParted', WHERE WHAT IT READS IS OF BULK AT MOST 1048576: true; the input reads as it did. -/
def detectPartedUptoRow : OpenClaim := { program := "ytcncdepjbhnknaagreatdoor", sum := "9dcc51126d8232183a84854e085982680a4d4c7caf3a2c7618548f92598fc544", func := "cresset/cressetlaw06.DetectParted", spec := "detectParted", inPlace := ["internal/bytealg.IndexByteString", "internal/bytealg.IndexString", "math/bits.Add64", "internal/abi.NoEscape", "internal/bytealg.MakeNoZero"], unfollowed := true, recurses := true, named := ["cresset/detect.zero", "internal/strconv.uint64pow10", "math/bits.deBruijn32tab", "math/bits.deBruijn64tab", "unicode/utf8.first", "unicode/utf8.acceptRanges", "strconv.ErrSyntax", "strconv.ErrRange", "cresset/detect.one", "internal/bytealg.MaxLen"], plainKeys := false, apart := false, laid := [("math/bits.deBruijn32tab", laid_math_bits_deBruijn32tab), ("math/bits.deBruijn64tab", laid_math_bits_deBruijn64tab), ("internal/strconv.uint64pow10", laid_internal_strconv_uint64pow10), ("unicode/utf8.acceptRanges", laid_unicode_utf8_acceptRanges), ("strconv.ErrRange", laid_strconv_ErrRange), ("strconv.ErrSyntax", laid_strconv_ErrSyntax), ("cresset/detect.zero", laid_cresset_detect_zero), ("cresset/detect.one", laid_cresset_detect_one), ("unicode/utf8.first", laid_unicode_utf8_first)], narrowed := true }
def DetectPartedUptoSaid : Prop := detectPartedUptoRow.holds Tryz.pinned (OpenSpec.upto detectPartedSpec)

/-- 'cressetlaw06.DetectNeeds', WHERE WHAT IT READS IS OF BULK AT MOST 1048576: true; the input reads as it did. -/
def detectNeedsUptoRow : OpenClaim := { program := "ytcncdepjbhnknaagreatdoor", sum := "9dcc51126d8232183a84854e085982680a4d4c7caf3a2c7618548f92598fc544", func := "cresset/cressetlaw06.DetectNeeds", spec := "detectNeeds", inPlace := ["internal/bytealg.IndexByteString", "internal/bytealg.IndexString", "math/bits.Add64", "internal/abi.NoEscape", "internal/bytealg.MakeNoZero"], unfollowed := true, recurses := true, named := ["cresset/detect.zero", "internal/strconv.uint64pow10", "math/bits.deBruijn32tab", "math/bits.deBruijn64tab", "unicode/utf8.first", "unicode/utf8.acceptRanges", "strconv.ErrSyntax", "strconv.ErrRange", "cresset/detect.one", "internal/bytealg.MaxLen"], plainKeys := false, apart := false, laid := [("math/bits.deBruijn32tab", laid_math_bits_deBruijn32tab), ("math/bits.deBruijn64tab", laid_math_bits_deBruijn64tab), ("internal/strconv.uint64pow10", laid_internal_strconv_uint64pow10), ("unicode/utf8.acceptRanges", laid_unicode_utf8_acceptRanges), ("strconv.ErrRange", laid_strconv_ErrRange), ("strconv.ErrSyntax", laid_strconv_ErrSyntax), ("cresset/detect.zero", laid_cresset_detect_zero), ("cresset/detect.one", laid_cresset_detect_one), ("unicode/utf8.first", laid_unicode_utf8_first)], narrowed := true }
def DetectNeedsUptoSaid : Prop := detectNeedsUptoRow.holds Tryz.pinned (OpenSpec.upto detectNeedsSpec)

/-- 'cressetlaw06.DetectWorse', WHERE WHAT IT READS IS OF BULK AT MOST 1048576: true; the input reads as it did. -/
def detectWorseUptoRow : OpenClaim := { program := "ytcncdepjbhnknaagreatdoor", sum := "9dcc51126d8232183a84854e085982680a4d4c7caf3a2c7618548f92598fc544", func := "cresset/cressetlaw06.DetectWorse", spec := "detectWorse", inPlace := ["internal/bytealg.IndexByteString", "internal/bytealg.IndexString", "math/bits.Add64", "internal/abi.NoEscape", "internal/bytealg.MakeNoZero"], unfollowed := true, recurses := true, named := ["cresset/detect.zero", "internal/strconv.uint64pow10", "math/bits.deBruijn32tab", "math/bits.deBruijn64tab", "unicode/utf8.first", "unicode/utf8.acceptRanges", "strconv.ErrSyntax", "strconv.ErrRange", "cresset/detect.one", "internal/bytealg.MaxLen"], plainKeys := false, apart := false, laid := [("math/bits.deBruijn32tab", laid_math_bits_deBruijn32tab), ("math/bits.deBruijn64tab", laid_math_bits_deBruijn64tab), ("internal/strconv.uint64pow10", laid_internal_strconv_uint64pow10), ("unicode/utf8.acceptRanges", laid_unicode_utf8_acceptRanges), ("strconv.ErrRange", laid_strconv_ErrRange), ("strconv.ErrSyntax", laid_strconv_ErrSyntax), ("cresset/detect.zero", laid_cresset_detect_zero), ("cresset/detect.one", laid_cresset_detect_one), ("unicode/utf8.first", laid_unicode_utf8_first)], narrowed := true }
def DetectWorseUptoSaid : Prop := detectWorseUptoRow.holds Tryz.pinned (OpenSpec.upto detectWorseSpec)

/-- 'cressetlaw06.DetectCovers', WHERE WHAT IT READS IS OF BULK AT MOST 1048576: true; the input reads as it did. -/
def detectCoversUptoRow : OpenClaim := { program := "ytcncdepjbhnknaagreatdoor", sum := "9dcc51126d8232183a84854e085982680a4d4c7caf3a2c7618548f92598fc544", func := "cresset/cressetlaw06.DetectCovers", spec := "detectCovers", inPlace := ["internal/bytealg.IndexByteString", "internal/bytealg.IndexString", "math/bits.Add64", "internal/abi.NoEscape", "internal/bytealg.MakeNoZero"], unfollowed := true, recurses := true, named := ["internal/strconv.uint64pow10", "math/bits.deBruijn32tab", "math/bits.deBruijn64tab", "unicode/utf8.first", "unicode/utf8.acceptRanges", "strconv.ErrSyntax", "strconv.ErrRange", "cresset/detect.zero", "cresset/detect.one", "internal/bytealg.MaxLen"], plainKeys := false, apart := false, laid := [("math/bits.deBruijn32tab", laid_math_bits_deBruijn32tab), ("math/bits.deBruijn64tab", laid_math_bits_deBruijn64tab), ("internal/strconv.uint64pow10", laid_internal_strconv_uint64pow10), ("unicode/utf8.acceptRanges", laid_unicode_utf8_acceptRanges), ("strconv.ErrRange", laid_strconv_ErrRange), ("strconv.ErrSyntax", laid_strconv_ErrSyntax), ("cresset/detect.zero", laid_cresset_detect_zero), ("cresset/detect.one", laid_cresset_detect_one), ("unicode/utf8.first", laid_unicode_utf8_first)], narrowed := true }
def DetectCoversUptoSaid : Prop := detectCoversUptoRow.holds Tryz.pinned (OpenSpec.upto detectCoversSpec)

/-- 'cressetlaw06.DetectChances', WHERE WHAT IT READS IS OF BULK AT MOST 1048576: true; the input reads as it did. -/
def detectChancesUptoRow : OpenClaim := { program := "ytcncdepjbhnknaagreatdoor", sum := "9dcc51126d8232183a84854e085982680a4d4c7caf3a2c7618548f92598fc544", func := "cresset/cressetlaw06.DetectChances", spec := "detectChances", inPlace := ["internal/bytealg.IndexByteString", "internal/bytealg.IndexString", "math/bits.Add64", "internal/abi.NoEscape", "internal/bytealg.MakeNoZero"], unfollowed := true, recurses := true, named := ["cresset/detect.zero", "internal/strconv.uint64pow10", "math/bits.deBruijn32tab", "math/bits.deBruijn64tab", "unicode/utf8.first", "unicode/utf8.acceptRanges", "strconv.ErrSyntax", "strconv.ErrRange", "cresset/detect.one", "internal/bytealg.MaxLen"], plainKeys := false, apart := false, laid := [("math/bits.deBruijn32tab", laid_math_bits_deBruijn32tab), ("math/bits.deBruijn64tab", laid_math_bits_deBruijn64tab), ("internal/strconv.uint64pow10", laid_internal_strconv_uint64pow10), ("unicode/utf8.acceptRanges", laid_unicode_utf8_acceptRanges), ("strconv.ErrRange", laid_strconv_ErrRange), ("strconv.ErrSyntax", laid_strconv_ErrSyntax), ("cresset/detect.zero", laid_cresset_detect_zero), ("cresset/detect.one", laid_cresset_detect_one), ("unicode/utf8.first", laid_unicode_utf8_first)], narrowed := true }
def DetectChancesUptoSaid : Prop := detectChancesUptoRow.holds Tryz.pinned (OpenSpec.upto detectChancesSpec)

/-- 'cressetlaw06.DetectConcave', WHERE WHAT IT READS IS OF BULK AT MOST 1048576: true; the input reads as it did. -/
def detectConcaveUptoRow : OpenClaim := { program := "ytcncdepjbhnknaagreatdoor", sum := "9dcc51126d8232183a84854e085982680a4d4c7caf3a2c7618548f92598fc544", func := "cresset/cressetlaw06.DetectConcave", spec := "detectConcave", inPlace := ["internal/bytealg.IndexByteString", "internal/bytealg.IndexString", "math/bits.Add64", "internal/abi.NoEscape", "internal/bytealg.MakeNoZero"], unfollowed := true, recurses := true, named := ["cresset/detect.zero", "internal/strconv.uint64pow10", "math/bits.deBruijn32tab", "math/bits.deBruijn64tab", "unicode/utf8.first", "unicode/utf8.acceptRanges", "strconv.ErrSyntax", "strconv.ErrRange", "cresset/detect.one", "internal/bytealg.MaxLen"], plainKeys := false, apart := false, laid := [("math/bits.deBruijn32tab", laid_math_bits_deBruijn32tab), ("math/bits.deBruijn64tab", laid_math_bits_deBruijn64tab), ("internal/strconv.uint64pow10", laid_internal_strconv_uint64pow10), ("unicode/utf8.acceptRanges", laid_unicode_utf8_acceptRanges), ("strconv.ErrRange", laid_strconv_ErrRange), ("strconv.ErrSyntax", laid_strconv_ErrSyntax), ("cresset/detect.zero", laid_cresset_detect_zero), ("cresset/detect.one", laid_cresset_detect_one), ("unicode/utf8.first", laid_unicode_utf8_first)], narrowed := true }
def DetectConcaveUptoSaid : Prop := detectConcaveUptoRow.holds Tryz.pinned (OpenSpec.upto detectConcaveSpec)

/-- 'cressetlaw06.DetectMisses', WHERE WHAT IT READS IS OF BULK AT MOST 1048576: true; the input reads as it did. -/
def detectMissesUptoRow : OpenClaim := { program := "ytcncdepjbhnknaagreatdoor", sum := "9dcc51126d8232183a84854e085982680a4d4c7caf3a2c7618548f92598fc544", func := "cresset/cressetlaw06.DetectMisses", spec := "detectMisses", inPlace := ["internal/bytealg.IndexByteString", "internal/bytealg.IndexString", "math/bits.Add64", "internal/abi.NoEscape", "internal/bytealg.MakeNoZero"], unfollowed := true, recurses := true, named := ["cresset/detect.zero", "internal/strconv.uint64pow10", "math/bits.deBruijn32tab", "math/bits.deBruijn64tab", "unicode/utf8.first", "unicode/utf8.acceptRanges", "strconv.ErrSyntax", "strconv.ErrRange", "cresset/detect.one", "internal/bytealg.MaxLen"], plainKeys := false, apart := false, laid := [("math/bits.deBruijn32tab", laid_math_bits_deBruijn32tab), ("math/bits.deBruijn64tab", laid_math_bits_deBruijn64tab), ("internal/strconv.uint64pow10", laid_internal_strconv_uint64pow10), ("unicode/utf8.acceptRanges", laid_unicode_utf8_acceptRanges), ("strconv.ErrRange", laid_strconv_ErrRange), ("strconv.ErrSyntax", laid_strconv_ErrSyntax), ("cresset/detect.zero", laid_cresset_detect_zero), ("cresset/detect.one", laid_cresset_detect_one), ("unicode/utf8.first", laid_unicode_utf8_first)], narrowed := true }
def DetectMissesUptoSaid : Prop := detectMissesUptoRow.holds Tryz.pinned (OpenSpec.upto detectMissesSpec)

/-- 'cressetlaw06.DetectRepeats', WHERE WHAT IT READS IS OF BULK AT MOST 1048576: true; the input reads as it did. -/
def detectRepeatsUptoRow : OpenClaim := { program := "ytcncdepjbhnknaagreatdoor", sum := "9dcc51126d8232183a84854e085982680a4d4c7caf3a2c7618548f92598fc544", func := "cresset/cressetlaw06.DetectRepeats", spec := "detectRepeats", inPlace := ["internal/bytealg.IndexByteString", "internal/bytealg.IndexString", "math/bits.Add64", "internal/abi.NoEscape", "internal/bytealg.MakeNoZero"], unfollowed := true, recurses := true, named := ["cresset/detect.zero", "internal/strconv.uint64pow10", "math/bits.deBruijn32tab", "math/bits.deBruijn64tab", "unicode/utf8.first", "unicode/utf8.acceptRanges", "strconv.ErrSyntax", "strconv.ErrRange", "cresset/detect.one", "internal/bytealg.MaxLen"], plainKeys := false, apart := false, laid := [("math/bits.deBruijn32tab", laid_math_bits_deBruijn32tab), ("math/bits.deBruijn64tab", laid_math_bits_deBruijn64tab), ("internal/strconv.uint64pow10", laid_internal_strconv_uint64pow10), ("unicode/utf8.acceptRanges", laid_unicode_utf8_acceptRanges), ("strconv.ErrRange", laid_strconv_ErrRange), ("strconv.ErrSyntax", laid_strconv_ErrSyntax), ("cresset/detect.zero", laid_cresset_detect_zero), ("cresset/detect.one", laid_cresset_detect_one), ("unicode/utf8.first", laid_unicode_utf8_first)], narrowed := true }
def DetectRepeatsUptoSaid : Prop := detectRepeatsUptoRow.holds Tryz.pinned (OpenSpec.upto detectRepeatsSpec)

/-- 'cressetlaw06.DetectNames', WHERE WHAT IT READS IS OF BULK AT MOST 1048576: true; the input reads as it did. -/
def detectNamesUptoRow : OpenClaim := { program := "ytcncdepjbhnknaagreatdoor", sum := "9dcc51126d8232183a84854e085982680a4d4c7caf3a2c7618548f92598fc544", func := "cresset/cressetlaw06.DetectNames", spec := "detectNames", inPlace := ["internal/bytealg.IndexByteString", "internal/bytealg.IndexString", "math/bits.Add64", "internal/abi.NoEscape", "internal/bytealg.MakeNoZero"], unfollowed := true, recurses := true, named := ["internal/strconv.uint64pow10", "math/bits.deBruijn32tab", "math/bits.deBruijn64tab", "unicode/utf8.first", "unicode/utf8.acceptRanges", "strconv.ErrSyntax", "strconv.ErrRange", "cresset/detect.zero", "cresset/detect.one", "internal/bytealg.MaxLen"], plainKeys := false, apart := false, laid := [("math/bits.deBruijn32tab", laid_math_bits_deBruijn32tab), ("math/bits.deBruijn64tab", laid_math_bits_deBruijn64tab), ("internal/strconv.uint64pow10", laid_internal_strconv_uint64pow10), ("unicode/utf8.acceptRanges", laid_unicode_utf8_acceptRanges), ("strconv.ErrRange", laid_strconv_ErrRange), ("strconv.ErrSyntax", laid_strconv_ErrSyntax), ("cresset/detect.zero", laid_cresset_detect_zero), ("cresset/detect.one", laid_cresset_detect_one), ("unicode/utf8.first", laid_unicode_utf8_first)], narrowed := true }
def DetectNamesUptoSaid : Prop := detectNamesUptoRow.holds Tryz.pinned (OpenSpec.upto detectNamesSpec)

end Rows
end Go.Proofs.YtcncdepjbhnknaaGreatDoor
