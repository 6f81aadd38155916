/-
  NARROWER THAN 'FOR EVERY INPUT', by the rows' own cells (each row's printed sentence says how): EffortGreedy: laid · EffortBound: laid · EffortOne: laid · EffortValues: laid · EffortPrices: laid · EffortImproves: laid · EffortBetter: laid · EffortHours: laid · EffortSolves: laid · EffortBest: laid · EffortNames: laid.
  DERIVED. THE GIVEN ROWS OF THIS SEAT. 11 by the template 'for every input the law returns true; each argument reads behind the call as it read before'; 0 by the template 'total and deterministic' (their statements: YtmpaflidennnoaaGreatDoorTotals.lean).
  GIVEN WITH THE SEED: the statements are not yours to turn. If you find one false, say at which input.
  Laid BY PROGRAM, IN A SANDBOX (cutbox-rows.mjs): the forced cells as the released guide's own fill.sh prints them over the translation a94dc15fc530179d… (all of the seat's roots in one cut). By AI agents, Wed Nov 11 2026. No macro, syntax, notation, axiom, sorry.
-/
import Derived.Test.YtmpaflidennnoaaGreatDoorChecked
import GoSem.PinnedTables
import GoSem.Claim
import GoSem.ClaimJoined
import GoSem.ClaimMapViews
import Derived.JoinedTies
import Derived.KernelRfl
namespace Go.Proofs.YtmpaflidennnoaaGreatDoor
/- THE CELL 'sum', in the pinned program and in every row, IS THE sha256 OF THE DUMP (.gsa) THAT YtmpaflidennnoaaGreatDoorProg.lean LOADS. Nothing in Lean hashes anything: it is a label: what it is worth is what the hold of that sum in a sandbox is worth. -/
noncomputable def Tryz.pinned : Pinned := { name := "ytmpaflidennnoaagreatdoor", sum := "a94dc15fc530179d924c56e11b9ddcab7124e38710ced0ed8e8210aed03cd770", checked := Tryz.checked }
namespace Rows
def none {H : Type} : Left H := { results := [], args := [] }

/- WHAT THE LISTED PACKAGE-LEVEL VARIABLES READ AS WHEN THE CALL BEGINS. Each datum BY PROGRAM (the guide's laid-datum.mjs) off the statement by which the dump's own 'gosem.cut.vars' lays the variable. In a bare row this is a premise. The card (YtmpaflidennnoaaGreatDoorCards.lean) ties it to the program's text. -/
def laid_math_bits_deBruijn32tab {H : Type} : DataW H := .agg [.lit (.int .u8 0), .lit (.int .u8 1), .lit (.int .u8 28), .lit (.int .u8 2), .lit (.int .u8 29), .lit (.int .u8 14), .lit (.int .u8 24), .lit (.int .u8 3), .lit (.int .u8 30), .lit (.int .u8 22), .lit (.int .u8 20), .lit (.int .u8 15), .lit (.int .u8 25), .lit (.int .u8 17), .lit (.int .u8 4), .lit (.int .u8 8), .lit (.int .u8 31), .lit (.int .u8 27), .lit (.int .u8 13), .lit (.int .u8 23), .lit (.int .u8 21), .lit (.int .u8 19), .lit (.int .u8 16), .lit (.int .u8 7), .lit (.int .u8 26), .lit (.int .u8 12), .lit (.int .u8 18), .lit (.int .u8 6), .lit (.int .u8 11), .lit (.int .u8 5), .lit (.int .u8 10), .lit (.int .u8 9)]
def laid_math_bits_deBruijn64tab {H : Type} : DataW H := .agg [.lit (.int .u8 0), .lit (.int .u8 1), .lit (.int .u8 56), .lit (.int .u8 2), .lit (.int .u8 57), .lit (.int .u8 49), .lit (.int .u8 28), .lit (.int .u8 3), .lit (.int .u8 61), .lit (.int .u8 58), .lit (.int .u8 42), .lit (.int .u8 50), .lit (.int .u8 38), .lit (.int .u8 29), .lit (.int .u8 17), .lit (.int .u8 4), .lit (.int .u8 62), .lit (.int .u8 47), .lit (.int .u8 59), .lit (.int .u8 36), .lit (.int .u8 45), .lit (.int .u8 43), .lit (.int .u8 51), .lit (.int .u8 22), .lit (.int .u8 53), .lit (.int .u8 39), .lit (.int .u8 33), .lit (.int .u8 30), .lit (.int .u8 24), .lit (.int .u8 18), .lit (.int .u8 12), .lit (.int .u8 5), .lit (.int .u8 63), .lit (.int .u8 55), .lit (.int .u8 48), .lit (.int .u8 27), .lit (.int .u8 60), .lit (.int .u8 41), .lit (.int .u8 37), .lit (.int .u8 16), .lit (.int .u8 46), .lit (.int .u8 35), .lit (.int .u8 44), .lit (.int .u8 21), .lit (.int .u8 52), .lit (.int .u8 32), .lit (.int .u8 23), .lit (.int .u8 11), .lit (.int .u8 54), .lit (.int .u8 26), .lit (.int .u8 40), .lit (.int .u8 15), .lit (.int .u8 34), .lit (.int .u8 20), .lit (.int .u8 31), .lit (.int .u8 10), .lit (.int .u8 25), .lit (.int .u8 14), .lit (.int .u8 19), .lit (.int .u8 9), .lit (.int .u8 13), .lit (.int .u8 8), .lit (.int .u8 7), .lit (.int .u8 6)]
def laid_internal_strconv_uint64pow10 {H : Type} : DataW H := .agg [.lit (.int .u64 1), .lit (.int .u64 10), .lit (.int .u64 100), .lit (.int .u64 1000), .lit (.int .u64 10000), .lit (.int .u64 100000), .lit (.int .u64 1000000), .lit (.int .u64 10000000), .lit (.int .u64 100000000), .lit (.int .u64 1000000000), .lit (.int .u64 10000000000), .lit (.int .u64 100000000000), .lit (.int .u64 1000000000000), .lit (.int .u64 10000000000000), .lit (.int .u64 100000000000000), .lit (.int .u64 1000000000000000), .lit (.int .u64 10000000000000000), .lit (.int .u64 100000000000000000), .lit (.int .u64 1000000000000000000), .lit (.int .u64 10000000000000000000)]
def laid_unicode_utf8_acceptRanges {H : Type} : DataW H := .agg [.agg [.lit (.int .u8 128), .lit (.int .u8 191)], .agg [.lit (.int .u8 160), .lit (.int .u8 191)], .agg [.lit (.int .u8 128), .lit (.int .u8 159)], .agg [.lit (.int .u8 144), .lit (.int .u8 191)], .agg [.lit (.int .u8 128), .lit (.int .u8 143)], .agg [.lit (.int .u8 0), .lit (.int .u8 0)], .agg [.lit (.int .u8 0), .lit (.int .u8 0)], .agg [.lit (.int .u8 0), .lit (.int .u8 0)], .agg [.lit (.int .u8 0), .lit (.int .u8 0)], .agg [.lit (.int .u8 0), .lit (.int .u8 0)], .agg [.lit (.int .u8 0), .lit (.int .u8 0)], .agg [.lit (.int .u8 0), .lit (.int .u8 0)], .agg [.lit (.int .u8 0), .lit (.int .u8 0)], .agg [.lit (.int .u8 0), .lit (.int .u8 0)], .agg [.lit (.int .u8 0), .lit (.int .u8 0)], .agg [.lit (.int .u8 0), .lit (.int .u8 0)]]
def laid_strconv_ErrRange {H : Type} : DataW H := .iface "*errors.errorString" (.ptr (.agg [.lit (.string [118, 97, 108, 117, 101, 32, 111, 117, 116, 32, 111, 102, 32, 114, 97, 110, 103, 101])]))
def laid_strconv_ErrSyntax {H : Type} : DataW H := .iface "*errors.errorString" (.ptr (.agg [.lit (.string [105, 110, 118, 97, 108, 105, 100, 32, 115, 121, 110, 116, 97, 120])]))
def laid_cresset_detect_zero {H : Type} : DataW H := .agg [.lit (.string [48]), .lit (.string [49])]
def laid_cresset_detect_one {H : Type} : DataW H := .agg [.lit (.string [49]), .lit (.string [49])]
def laid_cresset_effort_zero {H : Type} : DataW H := .agg [.lit (.string [48]), .lit (.string [49])]
/-- One of Go's own tables, pinned by name: the form's constant. -/
def laid_unicode_utf8_first : DataW Unit := Go.Pinned.utf8First

/-- 'cressetlaw07.EffortGreedy': WHATEVER THE INPUT: true; the input reads as it did. -/
def effortGreedySpec : ChangeSpec := { name := "effortGreedy", fn := fun _ => fun
  | [d] => { results := [.lit (.bool true)], args := [d] }
  | _ => none }
def effortGreedyRow : OpenClaim := { program := "ytmpaflidennnoaagreatdoor", sum := "a94dc15fc530179d924c56e11b9ddcab7124e38710ced0ed8e8210aed03cd770", func := "cresset/cressetlaw07.EffortGreedy", spec := "effortGreedy", inPlace := ["internal/bytealg.IndexByteString", "internal/bytealg.IndexString", "math/bits.Add64", "internal/abi.NoEscape", "internal/bytealg.MakeNoZero"], unfollowed := true, recurses := true, named := ["cresset/detect.zero", "internal/strconv.uint64pow10", "math/bits.deBruijn32tab", "math/bits.deBruijn64tab", "unicode/utf8.first", "unicode/utf8.acceptRanges", "strconv.ErrSyntax", "strconv.ErrRange", "cresset/effort.zero", "cresset/detect.one", "internal/bytealg.MaxLen"], plainKeys := false, apart := false, laid := [("math/bits.deBruijn32tab", laid_math_bits_deBruijn32tab), ("math/bits.deBruijn64tab", laid_math_bits_deBruijn64tab), ("internal/strconv.uint64pow10", laid_internal_strconv_uint64pow10), ("unicode/utf8.acceptRanges", laid_unicode_utf8_acceptRanges), ("strconv.ErrRange", laid_strconv_ErrRange), ("strconv.ErrSyntax", laid_strconv_ErrSyntax), ("cresset/detect.zero", laid_cresset_detect_zero), ("cresset/detect.one", laid_cresset_detect_one), ("cresset/effort.zero", laid_cresset_effort_zero), ("unicode/utf8.first", laid_unicode_utf8_first)] }
def EffortGreedySaid : Prop := effortGreedyRow.holds Tryz.pinned (OpenSpec.ofChange effortGreedySpec)

/-- ITS FALSE NEIGHBOUR: 'it returns false'. Refute it at one input. -/
def effortGreedyWrong : ChangeSpec := { name := "effortGreedy", fn := fun _ => fun
  | [d] => { results := [.lit (.bool false)], args := [d] }
  | _ => none }
def EffortGreedyWrongFalsely : Prop := effortGreedyRow.holds Tryz.pinned (OpenSpec.ofChange effortGreedyWrong)

/-- 'cressetlaw07.EffortBound': WHATEVER THE INPUT: true; the input reads as it did. -/
def effortBoundSpec : ChangeSpec := { name := "effortBound", fn := fun _ => fun
  | [d1, d2, d3] => { results := [.lit (.bool true)], args := [d1, d2, d3] }
  | _ => none }
def effortBoundRow : OpenClaim := { program := "ytmpaflidennnoaagreatdoor", sum := "a94dc15fc530179d924c56e11b9ddcab7124e38710ced0ed8e8210aed03cd770", func := "cresset/cressetlaw07.EffortBound", spec := "effortBound", inPlace := ["internal/bytealg.IndexByteString", "internal/bytealg.IndexString", "math/bits.Add64", "internal/abi.NoEscape", "internal/bytealg.MakeNoZero"], unfollowed := true, recurses := true, named := ["cresset/detect.zero", "internal/strconv.uint64pow10", "math/bits.deBruijn32tab", "math/bits.deBruijn64tab", "unicode/utf8.first", "unicode/utf8.acceptRanges", "strconv.ErrSyntax", "strconv.ErrRange", "cresset/effort.zero", "cresset/detect.one", "internal/bytealg.MaxLen"], plainKeys := false, apart := false, laid := [("math/bits.deBruijn32tab", laid_math_bits_deBruijn32tab), ("math/bits.deBruijn64tab", laid_math_bits_deBruijn64tab), ("internal/strconv.uint64pow10", laid_internal_strconv_uint64pow10), ("unicode/utf8.acceptRanges", laid_unicode_utf8_acceptRanges), ("strconv.ErrRange", laid_strconv_ErrRange), ("strconv.ErrSyntax", laid_strconv_ErrSyntax), ("cresset/detect.zero", laid_cresset_detect_zero), ("cresset/detect.one", laid_cresset_detect_one), ("cresset/effort.zero", laid_cresset_effort_zero), ("unicode/utf8.first", laid_unicode_utf8_first)] }
def EffortBoundSaid : Prop := effortBoundRow.holds Tryz.pinned (OpenSpec.ofChange effortBoundSpec)

/-- ITS FALSE NEIGHBOUR: 'it returns false'. Refute it at one input. -/
def effortBoundWrong : ChangeSpec := { name := "effortBound", fn := fun _ => fun
  | [d1, d2, d3] => { results := [.lit (.bool false)], args := [d1, d2, d3] }
  | _ => none }
def EffortBoundWrongFalsely : Prop := effortBoundRow.holds Tryz.pinned (OpenSpec.ofChange effortBoundWrong)

/-- 'cressetlaw07.EffortOne': WHATEVER THE INPUT: true; the input reads as it did. -/
def effortOneSpec : ChangeSpec := { name := "effortOne", fn := fun _ => fun
  | [d1, d2] => { results := [.lit (.bool true)], args := [d1, d2] }
  | _ => none }
def effortOneRow : OpenClaim := { program := "ytmpaflidennnoaagreatdoor", sum := "a94dc15fc530179d924c56e11b9ddcab7124e38710ced0ed8e8210aed03cd770", func := "cresset/cressetlaw07.EffortOne", spec := "effortOne", inPlace := ["internal/bytealg.IndexByteString", "internal/bytealg.IndexString", "math/bits.Add64", "internal/abi.NoEscape", "internal/bytealg.MakeNoZero"], unfollowed := true, recurses := true, named := ["cresset/detect.zero", "internal/strconv.uint64pow10", "math/bits.deBruijn32tab", "math/bits.deBruijn64tab", "unicode/utf8.first", "unicode/utf8.acceptRanges", "strconv.ErrSyntax", "strconv.ErrRange", "cresset/effort.zero", "cresset/detect.one", "internal/bytealg.MaxLen"], plainKeys := false, apart := false, laid := [("math/bits.deBruijn32tab", laid_math_bits_deBruijn32tab), ("math/bits.deBruijn64tab", laid_math_bits_deBruijn64tab), ("internal/strconv.uint64pow10", laid_internal_strconv_uint64pow10), ("unicode/utf8.acceptRanges", laid_unicode_utf8_acceptRanges), ("strconv.ErrRange", laid_strconv_ErrRange), ("strconv.ErrSyntax", laid_strconv_ErrSyntax), ("cresset/detect.zero", laid_cresset_detect_zero), ("cresset/detect.one", laid_cresset_detect_one), ("cresset/effort.zero", laid_cresset_effort_zero), ("unicode/utf8.first", laid_unicode_utf8_first)] }
def EffortOneSaid : Prop := effortOneRow.holds Tryz.pinned (OpenSpec.ofChange effortOneSpec)

/-- ITS FALSE NEIGHBOUR: 'it returns false'. Refute it at one input. -/
def effortOneWrong : ChangeSpec := { name := "effortOne", fn := fun _ => fun
  | [d1, d2] => { results := [.lit (.bool false)], args := [d1, d2] }
  | _ => none }
def EffortOneWrongFalsely : Prop := effortOneRow.holds Tryz.pinned (OpenSpec.ofChange effortOneWrong)

/-- 'cressetlaw07.EffortValues': WHATEVER THE INPUT: true; the input reads as it did. -/
def effortValuesSpec : ChangeSpec := { name := "effortValues", fn := fun _ => fun
  | [d1, d2, d3, d4] => { results := [.lit (.bool true)], args := [d1, d2, d3, d4] }
  | _ => none }
def effortValuesRow : OpenClaim := { program := "ytmpaflidennnoaagreatdoor", sum := "a94dc15fc530179d924c56e11b9ddcab7124e38710ced0ed8e8210aed03cd770", func := "cresset/cressetlaw07.EffortValues", spec := "effortValues", inPlace := ["internal/bytealg.IndexByteString", "internal/bytealg.IndexString", "math/bits.Add64", "internal/abi.NoEscape", "internal/bytealg.MakeNoZero"], unfollowed := true, recurses := true, named := ["cresset/detect.zero", "internal/strconv.uint64pow10", "math/bits.deBruijn32tab", "math/bits.deBruijn64tab", "unicode/utf8.first", "unicode/utf8.acceptRanges", "strconv.ErrSyntax", "strconv.ErrRange", "cresset/effort.zero", "cresset/detect.one", "internal/bytealg.MaxLen"], plainKeys := false, apart := false, laid := [("math/bits.deBruijn32tab", laid_math_bits_deBruijn32tab), ("math/bits.deBruijn64tab", laid_math_bits_deBruijn64tab), ("internal/strconv.uint64pow10", laid_internal_strconv_uint64pow10), ("unicode/utf8.acceptRanges", laid_unicode_utf8_acceptRanges), ("strconv.ErrRange", laid_strconv_ErrRange), ("strconv.ErrSyntax", laid_strconv_ErrSyntax), ("cresset/detect.zero", laid_cresset_detect_zero), ("cresset/detect.one", laid_cresset_detect_one), ("cresset/effort.zero", laid_cresset_effort_zero), ("unicode/utf8.first", laid_unicode_utf8_first)] }
def EffortValuesSaid : Prop := effortValuesRow.holds Tryz.pinned (OpenSpec.ofChange effortValuesSpec)

/-- ITS FALSE NEIGHBOUR: 'it returns false'. Refute it at one input. -/
def effortValuesWrong : ChangeSpec := { name := "effortValues", fn := fun _ => fun
  | [d1, d2, d3, d4] => { results := [.lit (.bool false)], args := [d1, d2, d3, d4] }
  | _ => none }
def EffortValuesWrongFalsely : Prop := effortValuesRow.holds Tryz.pinned (OpenSpec.ofChange effortValuesWrong)

/-- 'cressetlaw07.EffortPrices': WHATEVER THE INPUT: true; the input reads as it did. -/
def effortPricesSpec : ChangeSpec := { name := "effortPrices", fn := fun _ => fun
  | [d1, d2, d3] => { results := [.lit (.bool true)], args := [d1, d2, d3] }
  | _ => none }
def effortPricesRow : OpenClaim := { program := "ytmpaflidennnoaagreatdoor", sum := "a94dc15fc530179d924c56e11b9ddcab7124e38710ced0ed8e8210aed03cd770", func := "cresset/cressetlaw07.EffortPrices", spec := "effortPrices", inPlace := ["internal/bytealg.IndexByteString", "internal/bytealg.IndexString", "math/bits.Add64", "internal/abi.NoEscape", "internal/bytealg.MakeNoZero"], unfollowed := true, recurses := true, named := ["cresset/detect.zero", "internal/strconv.uint64pow10", "math/bits.deBruijn32tab", "math/bits.deBruijn64tab", "unicode/utf8.first", "unicode/utf8.acceptRanges", "strconv.ErrSyntax", "strconv.ErrRange", "cresset/effort.zero", "cresset/detect.one", "internal/bytealg.MaxLen"], plainKeys := false, apart := false, laid := [("math/bits.deBruijn32tab", laid_math_bits_deBruijn32tab), ("math/bits.deBruijn64tab", laid_math_bits_deBruijn64tab), ("internal/strconv.uint64pow10", laid_internal_strconv_uint64pow10), ("unicode/utf8.acceptRanges", laid_unicode_utf8_acceptRanges), ("strconv.ErrRange", laid_strconv_ErrRange), ("strconv.ErrSyntax", laid_strconv_ErrSyntax), ("cresset/detect.zero", laid_cresset_detect_zero), ("cresset/detect.one", laid_cresset_detect_one), ("cresset/effort.zero", laid_cresset_effort_zero), ("unicode/utf8.first", laid_unicode_utf8_first)] }
def EffortPricesSaid : Prop := effortPricesRow.holds Tryz.pinned (OpenSpec.ofChange effortPricesSpec)

/-- ITS FALSE NEIGHBOUR: 'it returns false'. Refute it at one input. -/
def effortPricesWrong : ChangeSpec := { name := "effortPrices", fn := fun _ => fun
  | [d1, d2, d3] => { results := [.lit (.bool false)], args := [d1, d2, d3] }
  | _ => none }
def EffortPricesWrongFalsely : Prop := effortPricesRow.holds Tryz.pinned (OpenSpec.ofChange effortPricesWrong)

/-- 'cressetlaw07.EffortImproves': WHATEVER THE INPUT: true; the input reads as it did. -/
def effortImprovesSpec : ChangeSpec := { name := "effortImproves", fn := fun _ => fun
  | [d1, d2, d3] => { results := [.lit (.bool true)], args := [d1, d2, d3] }
  | _ => none }
def effortImprovesRow : OpenClaim := { program := "ytmpaflidennnoaagreatdoor", sum := "a94dc15fc530179d924c56e11b9ddcab7124e38710ced0ed8e8210aed03cd770", func := "cresset/cressetlaw07.EffortImproves", spec := "effortImproves", inPlace := ["internal/bytealg.IndexByteString", "internal/bytealg.IndexString", "math/bits.Add64", "internal/abi.NoEscape", "internal/bytealg.MakeNoZero"], unfollowed := true, recurses := true, named := ["cresset/detect.zero", "internal/strconv.uint64pow10", "math/bits.deBruijn32tab", "math/bits.deBruijn64tab", "unicode/utf8.first", "unicode/utf8.acceptRanges", "strconv.ErrSyntax", "strconv.ErrRange", "cresset/effort.zero", "cresset/detect.one", "internal/bytealg.MaxLen"], plainKeys := false, apart := false, laid := [("math/bits.deBruijn32tab", laid_math_bits_deBruijn32tab), ("math/bits.deBruijn64tab", laid_math_bits_deBruijn64tab), ("internal/strconv.uint64pow10", laid_internal_strconv_uint64pow10), ("unicode/utf8.acceptRanges", laid_unicode_utf8_acceptRanges), ("strconv.ErrRange", laid_strconv_ErrRange), ("strconv.ErrSyntax", laid_strconv_ErrSyntax), ("cresset/detect.zero", laid_cresset_detect_zero), ("cresset/detect.one", laid_cresset_detect_one), ("cresset/effort.zero", laid_cresset_effort_zero), ("unicode/utf8.first", laid_unicode_utf8_first)] }
def EffortImprovesSaid : Prop := effortImprovesRow.holds Tryz.pinned (OpenSpec.ofChange effortImprovesSpec)

/-- ITS FALSE NEIGHBOUR: 'it returns false'. Refute it at one input. -/
def effortImprovesWrong : ChangeSpec := { name := "effortImproves", fn := fun _ => fun
  | [d1, d2, d3] => { results := [.lit (.bool false)], args := [d1, d2, d3] }
  | _ => none }
def EffortImprovesWrongFalsely : Prop := effortImprovesRow.holds Tryz.pinned (OpenSpec.ofChange effortImprovesWrong)

/-- 'cressetlaw07.EffortBetter': WHATEVER THE INPUT: true; the input reads as it did. -/
def effortBetterSpec : ChangeSpec := { name := "effortBetter", fn := fun _ => fun
  | [d1, d2, d3] => { results := [.lit (.bool true)], args := [d1, d2, d3] }
  | _ => none }
def effortBetterRow : OpenClaim := { program := "ytmpaflidennnoaagreatdoor", sum := "a94dc15fc530179d924c56e11b9ddcab7124e38710ced0ed8e8210aed03cd770", func := "cresset/cressetlaw07.EffortBetter", spec := "effortBetter", inPlace := ["internal/bytealg.IndexByteString", "internal/bytealg.IndexString", "math/bits.Add64", "internal/abi.NoEscape", "internal/bytealg.MakeNoZero"], unfollowed := true, recurses := true, named := ["cresset/detect.zero", "internal/strconv.uint64pow10", "math/bits.deBruijn32tab", "math/bits.deBruijn64tab", "unicode/utf8.first", "unicode/utf8.acceptRanges", "strconv.ErrSyntax", "strconv.ErrRange", "cresset/effort.zero", "cresset/detect.one", "internal/bytealg.MaxLen"], plainKeys := false, apart := false, laid := [("math/bits.deBruijn32tab", laid_math_bits_deBruijn32tab), ("math/bits.deBruijn64tab", laid_math_bits_deBruijn64tab), ("internal/strconv.uint64pow10", laid_internal_strconv_uint64pow10), ("unicode/utf8.acceptRanges", laid_unicode_utf8_acceptRanges), ("strconv.ErrRange", laid_strconv_ErrRange), ("strconv.ErrSyntax", laid_strconv_ErrSyntax), ("cresset/detect.zero", laid_cresset_detect_zero), ("cresset/detect.one", laid_cresset_detect_one), ("cresset/effort.zero", laid_cresset_effort_zero), ("unicode/utf8.first", laid_unicode_utf8_first)] }
def EffortBetterSaid : Prop := effortBetterRow.holds Tryz.pinned (OpenSpec.ofChange effortBetterSpec)

/-- ITS FALSE NEIGHBOUR: 'it returns false'. Refute it at one input. -/
def effortBetterWrong : ChangeSpec := { name := "effortBetter", fn := fun _ => fun
  | [d1, d2, d3] => { results := [.lit (.bool false)], args := [d1, d2, d3] }
  | _ => none }
def EffortBetterWrongFalsely : Prop := effortBetterRow.holds Tryz.pinned (OpenSpec.ofChange effortBetterWrong)

/-- 'cressetlaw07.EffortHours': WHATEVER THE INPUT: true; the input reads as it did. -/
def effortHoursSpec : ChangeSpec := { name := "effortHours", fn := fun _ => fun
  | [d1, d2, d3, d4] => { results := [.lit (.bool true)], args := [d1, d2, d3, d4] }
  | _ => none }
def effortHoursRow : OpenClaim := { program := "ytmpaflidennnoaagreatdoor", sum := "a94dc15fc530179d924c56e11b9ddcab7124e38710ced0ed8e8210aed03cd770", func := "cresset/cressetlaw07.EffortHours", spec := "effortHours", inPlace := ["internal/bytealg.IndexByteString", "internal/bytealg.IndexString", "math/bits.Add64", "internal/abi.NoEscape", "internal/bytealg.MakeNoZero"], unfollowed := true, recurses := true, named := ["cresset/detect.zero", "internal/strconv.uint64pow10", "math/bits.deBruijn32tab", "math/bits.deBruijn64tab", "unicode/utf8.first", "unicode/utf8.acceptRanges", "strconv.ErrSyntax", "strconv.ErrRange", "cresset/effort.zero", "cresset/detect.one", "internal/bytealg.MaxLen"], plainKeys := false, apart := false, laid := [("math/bits.deBruijn32tab", laid_math_bits_deBruijn32tab), ("math/bits.deBruijn64tab", laid_math_bits_deBruijn64tab), ("internal/strconv.uint64pow10", laid_internal_strconv_uint64pow10), ("unicode/utf8.acceptRanges", laid_unicode_utf8_acceptRanges), ("strconv.ErrRange", laid_strconv_ErrRange), ("strconv.ErrSyntax", laid_strconv_ErrSyntax), ("cresset/detect.zero", laid_cresset_detect_zero), ("cresset/detect.one", laid_cresset_detect_one), ("cresset/effort.zero", laid_cresset_effort_zero), ("unicode/utf8.first", laid_unicode_utf8_first)] }
def EffortHoursSaid : Prop := effortHoursRow.holds Tryz.pinned (OpenSpec.ofChange effortHoursSpec)

/-- ITS FALSE NEIGHBOUR: 'it returns false'. Refute it at one input. -/
def effortHoursWrong : ChangeSpec := { name := "effortHours", fn := fun _ => fun
  | [d1, d2, d3, d4] => { results := [.lit (.bool false)], args := [d1, d2, d3, d4] }
  | _ => none }
def EffortHoursWrongFalsely : Prop := effortHoursRow.holds Tryz.pinned (OpenSpec.ofChange effortHoursWrong)

/-- 'cressetlaw07.EffortSolves': WHATEVER THE INPUT: true; the input reads as it did. -/
def effortSolvesSpec : ChangeSpec := { name := "effortSolves", fn := fun _ => fun
  | [d1, d2] => { results := [.lit (.bool true)], args := [d1, d2] }
  | _ => none }
def effortSolvesRow : OpenClaim := { program := "ytmpaflidennnoaagreatdoor", sum := "a94dc15fc530179d924c56e11b9ddcab7124e38710ced0ed8e8210aed03cd770", func := "cresset/cressetlaw07.EffortSolves", spec := "effortSolves", inPlace := ["internal/bytealg.IndexByteString", "internal/bytealg.IndexString", "math/bits.Add64", "internal/abi.NoEscape", "internal/bytealg.MakeNoZero"], unfollowed := true, recurses := true, named := ["cresset/detect.zero", "internal/strconv.uint64pow10", "math/bits.deBruijn32tab", "math/bits.deBruijn64tab", "unicode/utf8.first", "unicode/utf8.acceptRanges", "strconv.ErrSyntax", "strconv.ErrRange", "cresset/effort.zero", "cresset/detect.one", "internal/bytealg.MaxLen"], plainKeys := false, apart := false, laid := [("math/bits.deBruijn32tab", laid_math_bits_deBruijn32tab), ("math/bits.deBruijn64tab", laid_math_bits_deBruijn64tab), ("internal/strconv.uint64pow10", laid_internal_strconv_uint64pow10), ("unicode/utf8.acceptRanges", laid_unicode_utf8_acceptRanges), ("strconv.ErrRange", laid_strconv_ErrRange), ("strconv.ErrSyntax", laid_strconv_ErrSyntax), ("cresset/detect.zero", laid_cresset_detect_zero), ("cresset/detect.one", laid_cresset_detect_one), ("cresset/effort.zero", laid_cresset_effort_zero), ("unicode/utf8.first", laid_unicode_utf8_first)] }
def EffortSolvesSaid : Prop := effortSolvesRow.holds Tryz.pinned (OpenSpec.ofChange effortSolvesSpec)

/-- ITS FALSE NEIGHBOUR: 'it returns false'. Refute it at one input. -/
def effortSolvesWrong : ChangeSpec := { name := "effortSolves", fn := fun _ => fun
  | [d1, d2] => { results := [.lit (.bool false)], args := [d1, d2] }
  | _ => none }
def EffortSolvesWrongFalsely : Prop := effortSolvesRow.holds Tryz.pinned (OpenSpec.ofChange effortSolvesWrong)

/-- 'cressetlaw07.EffortBest': WHATEVER THE INPUT: true; the input reads as it did. -/
def effortBestSpec : ChangeSpec := { name := "effortBest", fn := fun _ => fun
  | [d1, d2, d3] => { results := [.lit (.bool true)], args := [d1, d2, d3] }
  | _ => none }
def effortBestRow : OpenClaim := { program := "ytmpaflidennnoaagreatdoor", sum := "a94dc15fc530179d924c56e11b9ddcab7124e38710ced0ed8e8210aed03cd770", func := "cresset/cressetlaw07.EffortBest", spec := "effortBest", inPlace := ["internal/bytealg.IndexByteString", "internal/bytealg.IndexString", "math/bits.Add64", "internal/abi.NoEscape", "internal/bytealg.MakeNoZero"], unfollowed := true, recurses := true, named := ["cresset/detect.zero", "internal/strconv.uint64pow10", "math/bits.deBruijn32tab", "math/bits.deBruijn64tab", "unicode/utf8.first", "unicode/utf8.acceptRanges", "strconv.ErrSyntax", "strconv.ErrRange", "cresset/effort.zero", "cresset/detect.one", "internal/bytealg.MaxLen"], plainKeys := false, apart := false, laid := [("math/bits.deBruijn32tab", laid_math_bits_deBruijn32tab), ("math/bits.deBruijn64tab", laid_math_bits_deBruijn64tab), ("internal/strconv.uint64pow10", laid_internal_strconv_uint64pow10), ("unicode/utf8.acceptRanges", laid_unicode_utf8_acceptRanges), ("strconv.ErrRange", laid_strconv_ErrRange), ("strconv.ErrSyntax", laid_strconv_ErrSyntax), ("cresset/detect.zero", laid_cresset_detect_zero), ("cresset/detect.one", laid_cresset_detect_one), ("cresset/effort.zero", laid_cresset_effort_zero), ("unicode/utf8.first", laid_unicode_utf8_first)] }
def EffortBestSaid : Prop := effortBestRow.holds Tryz.pinned (OpenSpec.ofChange effortBestSpec)

/-- ITS FALSE NEIGHBOUR: 'it returns false'. Refute it at one input. -/
def effortBestWrong : ChangeSpec := { name := "effortBest", fn := fun _ => fun
  | [d1, d2, d3] => { results := [.lit (.bool false)], args := [d1, d2, d3] }
  | _ => none }
def EffortBestWrongFalsely : Prop := effortBestRow.holds Tryz.pinned (OpenSpec.ofChange effortBestWrong)

/-- 'cressetlaw07.EffortNames': WHATEVER THE INPUT: true; the input reads as it did. -/
def effortNamesSpec : ChangeSpec := { name := "effortNames", fn := fun _ => fun
  | [] => { results := [.lit (.bool true)], args := [] }
  | _ => none }
def effortNamesRow : OpenClaim := { program := "ytmpaflidennnoaagreatdoor", sum := "a94dc15fc530179d924c56e11b9ddcab7124e38710ced0ed8e8210aed03cd770", func := "cresset/cressetlaw07.EffortNames", spec := "effortNames", inPlace := ["internal/bytealg.IndexByteString", "internal/bytealg.IndexString", "math/bits.Add64", "internal/abi.NoEscape", "internal/bytealg.MakeNoZero"], unfollowed := true, recurses := true, named := ["cresset/detect.zero", "internal/strconv.uint64pow10", "math/bits.deBruijn32tab", "math/bits.deBruijn64tab", "unicode/utf8.first", "unicode/utf8.acceptRanges", "strconv.ErrSyntax", "strconv.ErrRange", "cresset/effort.zero", "cresset/detect.one", "internal/bytealg.MaxLen"], plainKeys := false, apart := false, laid := [("math/bits.deBruijn32tab", laid_math_bits_deBruijn32tab), ("math/bits.deBruijn64tab", laid_math_bits_deBruijn64tab), ("internal/strconv.uint64pow10", laid_internal_strconv_uint64pow10), ("unicode/utf8.acceptRanges", laid_unicode_utf8_acceptRanges), ("strconv.ErrRange", laid_strconv_ErrRange), ("strconv.ErrSyntax", laid_strconv_ErrSyntax), ("cresset/detect.zero", laid_cresset_detect_zero), ("cresset/detect.one", laid_cresset_detect_one), ("cresset/effort.zero", laid_cresset_effort_zero), ("unicode/utf8.first", laid_unicode_utf8_first)] }
def EffortNamesSaid : Prop := effortNamesRow.holds Tryz.pinned (OpenSpec.ofChange effortNamesSpec)

/-- ITS FALSE NEIGHBOUR: 'it returns false'. Refute it at one input. -/
def effortNamesWrong : ChangeSpec := { name := "effortNames", fn := fun _ => fun
  | [] => { results := [.lit (.bool false)], args := [] }
  | _ => none }
def EffortNamesWrongFalsely : Prop := effortNamesRow.holds Tryz.pinned (OpenSpec.ofChange effortNamesWrong)

/- THE SECOND FORM. 'bulk': how many values and letters a reading holds, each counted each time it is reached (what is shared counts as often as it is met; a slice's spare places count too). A statement '..UptoSaid' is the law's where the arguments, and the package variables that the reading takes, are together of bulk at most 1048576: NARROWER than '..Said'. Prove '..Said' where nothing that the law and all that it calls make is longer than what came in: it says more and counts as full. Else prove '..UptoSaid'. A law counts once. -/
mutual
def uptoBulk {H : Type} : DataW H → Nat
  | .lit (.string bytes) => bytes.length + 1
  | .lit _ => 1
  | .nil => 1
  | .ptr d => uptoBulk d + 1
  | .slice elems spare => uptoBulkAll elems + uptoBulkAll spare + 1
  | .agg parts => uptoBulkAll parts + 1
  | .iface _ d => uptoBulk d + 1
  | .map entries => uptoBulkEntries entries + 1
  | .held _ => 1
def uptoBulkAll {H : Type} : List (DataW H) → Nat
  | [] => 0
  | d :: r => uptoBulk d + uptoBulkAll r
def uptoBulkEntries {H : Type} : List (Lit × DataW H) → Nat
  | [] => 0
  | x :: r => uptoBulkEntry x + uptoBulkEntries r
def uptoBulkEntry {H : Type} : Lit × DataW H → Nat
  | (.string bytes, d) => bytes.length + uptoBulk d + 1
  | (_, d) => uptoBulk d + 1
 end
def uptoSmall : (H : Type) → List (DataW H) → Bool := fun _ ds => decide (uptoBulkAll ds ≤ 1048576)
def OpenSpec.upto (s : _root_.Go.ChangeSpec) : _root_.Go.OpenSpec := { _root_.Go.OpenSpec.ofChange s with cond := some uptoSmall }

/-- 'cressetlaw07.EffortGreedy', WHERE WHAT IT READS IS OF BULK AT MOST 1048576: true; the input reads as it did. -/
def effortGreedyUptoRow : OpenClaim := { program := "ytmpaflidennnoaagreatdoor", sum := "a94dc15fc530179d924c56e11b9ddcab7124e38710ced0ed8e8210aed03cd770", func := "cresset/cressetlaw07.EffortGreedy", spec := "effortGreedy", inPlace := ["internal/bytealg.IndexByteString", "internal/bytealg.IndexString", "math/bits.Add64", "internal/abi.NoEscape", "internal/bytealg.MakeNoZero"], unfollowed := true, recurses := true, named := ["cresset/detect.zero", "internal/strconv.uint64pow10", "math/bits.deBruijn32tab", "math/bits.deBruijn64tab", "unicode/utf8.first", "unicode/utf8.acceptRanges", "strconv.ErrSyntax", "strconv.ErrRange", "cresset/effort.zero", "cresset/detect.one", "internal/bytealg.MaxLen"], plainKeys := false, apart := false, laid := [("math/bits.deBruijn32tab", laid_math_bits_deBruijn32tab), ("math/bits.deBruijn64tab", laid_math_bits_deBruijn64tab), ("internal/strconv.uint64pow10", laid_internal_strconv_uint64pow10), ("unicode/utf8.acceptRanges", laid_unicode_utf8_acceptRanges), ("strconv.ErrRange", laid_strconv_ErrRange), ("strconv.ErrSyntax", laid_strconv_ErrSyntax), ("cresset/detect.zero", laid_cresset_detect_zero), ("cresset/detect.one", laid_cresset_detect_one), ("cresset/effort.zero", laid_cresset_effort_zero), ("unicode/utf8.first", laid_unicode_utf8_first)], narrowed := true }
def EffortGreedyUptoSaid : Prop := effortGreedyUptoRow.holds Tryz.pinned (OpenSpec.upto effortGreedySpec)

/-- 'cressetlaw07.EffortBound', WHERE WHAT IT READS IS OF BULK AT MOST 1048576: true; the input reads as it did. -/
def effortBoundUptoRow : OpenClaim := { program := "ytmpaflidennnoaagreatdoor", sum := "a94dc15fc530179d924c56e11b9ddcab7124e38710ced0ed8e8210aed03cd770", func := "cresset/cressetlaw07.EffortBound", spec := "effortBound", inPlace := ["internal/bytealg.IndexByteString", "internal/bytealg.IndexString", "math/bits.Add64", "internal/abi.NoEscape", "internal/bytealg.MakeNoZero"], unfollowed := true, recurses := true, named := ["cresset/detect.zero", "internal/strconv.uint64pow10", "math/bits.deBruijn32tab", "math/bits.deBruijn64tab", "unicode/utf8.first", "unicode/utf8.acceptRanges", "strconv.ErrSyntax", "strconv.ErrRange", "cresset/effort.zero", "cresset/detect.one", "internal/bytealg.MaxLen"], plainKeys := false, apart := false, laid := [("math/bits.deBruijn32tab", laid_math_bits_deBruijn32tab), ("math/bits.deBruijn64tab", laid_math_bits_deBruijn64tab), ("internal/strconv.uint64pow10", laid_internal_strconv_uint64pow10), ("unicode/utf8.acceptRanges", laid_unicode_utf8_acceptRanges), ("strconv.ErrRange", laid_strconv_ErrRange), ("strconv.ErrSyntax", laid_strconv_ErrSyntax), ("cresset/detect.zero", laid_cresset_detect_zero), ("cresset/detect.one", laid_cresset_detect_one), ("cresset/effort.zero", laid_cresset_effort_zero), ("unicode/utf8.first", laid_unicode_utf8_first)], narrowed := true }
def EffortBoundUptoSaid : Prop := effortBoundUptoRow.holds Tryz.pinned (OpenSpec.upto effortBoundSpec)

/-- 'cressetlaw07.EffortOne', WHERE WHAT IT READS IS OF BULK AT MOST 1048576: true; the input reads as it did. -/
def effortOneUptoRow : OpenClaim := { program := "ytmpaflidennnoaagreatdoor", sum := "a94dc15fc530179d924c56e11b9ddcab7124e38710ced0ed8e8210aed03cd770", func := "cresset/cressetlaw07.EffortOne", spec := "effortOne", inPlace := ["internal/bytealg.IndexByteString", "internal/bytealg.IndexString", "math/bits.Add64", "internal/abi.NoEscape", "internal/bytealg.MakeNoZero"], unfollowed := true, recurses := true, named := ["cresset/detect.zero", "internal/strconv.uint64pow10", "math/bits.deBruijn32tab", "math/bits.deBruijn64tab", "unicode/utf8.first", "unicode/utf8.acceptRanges", "strconv.ErrSyntax", "strconv.ErrRange", "cresset/effort.zero", "cresset/detect.one", "internal/bytealg.MaxLen"], plainKeys := false, apart := false, laid := [("math/bits.deBruijn32tab", laid_math_bits_deBruijn32tab), ("math/bits.deBruijn64tab", laid_math_bits_deBruijn64tab), ("internal/strconv.uint64pow10", laid_internal_strconv_uint64pow10), ("unicode/utf8.acceptRanges", laid_unicode_utf8_acceptRanges), ("strconv.ErrRange", laid_strconv_ErrRange), ("strconv.ErrSyntax", laid_strconv_ErrSyntax), ("cresset/detect.zero", laid_cresset_detect_zero), ("cresset/detect.one", laid_cresset_detect_one), ("cresset/effort.zero", laid_cresset_effort_zero), ("unicode/utf8.first", laid_unicode_utf8_first)], narrowed := true }
def EffortOneUptoSaid : Prop := effortOneUptoRow.holds Tryz.pinned (OpenSpec.upto effortOneSpec)

/-- 'cressetlaw07.EffortValues', WHERE WHAT IT READS IS OF BULK AT MOST 1048576: true; the input reads as it did. -/
def effortValuesUptoRow : OpenClaim := { program := "ytmpaflidennnoaagreatdoor", sum := "a94dc15fc530179d924c56e11b9ddcab7124e38710ced0ed8e8210aed03cd770", func := "cresset/cressetlaw07.EffortValues", spec := "effortValues", inPlace := ["internal/bytealg.IndexByteString", "internal/bytealg.IndexString", "math/bits.Add64", "internal/abi.NoEscape", "internal/bytealg.MakeNoZero"], unfollowed := true, recurses := true, named := ["cresset/detect.zero", "internal/strconv.uint64pow10", "math/bits.deBruijn32tab", "math/bits.deBruijn64tab", "unicode/utf8.first", "unicode/utf8.acceptRanges", "strconv.ErrSyntax", "strconv.ErrRange", "cresset/effort.zero", "cresset/detect.one", "internal/bytealg.MaxLen"], plainKeys := false, apart := false, laid := [("math/bits.deBruijn32tab", laid_math_bits_deBruijn32tab), ("math/bits.deBruijn64tab", laid_math_bits_deBruijn64tab), ("internal/strconv.uint64pow10", laid_internal_strconv_uint64pow10), ("unicode/utf8.acceptRanges", laid_unicode_utf8_acceptRanges), ("strconv.ErrRange", laid_strconv_ErrRange), ("strconv.ErrSyntax", laid_strconv_ErrSyntax), ("cresset/detect.zero", laid_cresset_detect_zero), ("cresset/detect.one", laid_cresset_detect_one), ("cresset/effort.zero", laid_cresset_effort_zero), ("unicode/utf8.first", laid_unicode_utf8_first)], narrowed := true }
def EffortValuesUptoSaid : Prop := effortValuesUptoRow.holds Tryz.pinned (OpenSpec.upto effortValuesSpec)

/-- 'cressetlaw07.EffortPrices', WHERE WHAT IT READS IS OF BULK AT MOST 1048576: true; the input reads as it did. -/
def effortPricesUptoRow : OpenClaim := { program := "ytmpaflidennnoaagreatdoor", sum := "a94dc15fc530179d924c56e11b9ddcab7124e38710ced0ed8e8210aed03cd770", func := "cresset/cressetlaw07.EffortPrices", spec := "effortPrices", inPlace := ["internal/bytealg.IndexByteString", "internal/bytealg.IndexString", "math/bits.Add64", "internal/abi.NoEscape", "internal/bytealg.MakeNoZero"], unfollowed := true, recurses := true, named := ["cresset/detect.zero", "internal/strconv.uint64pow10", "math/bits.deBruijn32tab", "math/bits.deBruijn64tab", "unicode/utf8.first", "unicode/utf8.acceptRanges", "strconv.ErrSyntax", "strconv.ErrRange", "cresset/effort.zero", "cresset/detect.one", "internal/bytealg.MaxLen"], plainKeys := false, apart := false, laid := [("math/bits.deBruijn32tab", laid_math_bits_deBruijn32tab), ("math/bits.deBruijn64tab", laid_math_bits_deBruijn64tab), ("internal/strconv.uint64pow10", laid_internal_strconv_uint64pow10), ("unicode/utf8.acceptRanges", laid_unicode_utf8_acceptRanges), ("strconv.ErrRange", laid_strconv_ErrRange), ("strconv.ErrSyntax", laid_strconv_ErrSyntax), ("cresset/detect.zero", laid_cresset_detect_zero), ("cresset/detect.one", laid_cresset_detect_one), ("cresset/effort.zero", laid_cresset_effort_zero), ("unicode/utf8.first", laid_unicode_utf8_first)], narrowed := true }
def EffortPricesUptoSaid : Prop := effortPricesUptoRow.holds Tryz.pinned (OpenSpec.upto effortPricesSpec)

/-- 'cressetlaw07.EffortImproves', WHERE WHAT IT READS IS OF BULK AT MOST 1048576: true; the input reads as it did. -/
def effortImprovesUptoRow : OpenClaim := { program := "ytmpaflidennnoaagreatdoor", sum := "a94dc15fc530179d924c56e11b9ddcab7124e38710ced0ed8e8210aed03cd770", func := "cresset/cressetlaw07.EffortImproves", spec := "effortImproves", inPlace := ["internal/bytealg.IndexByteString", "internal/bytealg.IndexString", "math/bits.Add64", "internal/abi.NoEscape", "internal/bytealg.MakeNoZero"], unfollowed := true, recurses := true, named := ["cresset/detect.zero", "internal/strconv.uint64pow10", "math/bits.deBruijn32tab", "math/bits.deBruijn64tab", "unicode/utf8.first", "unicode/utf8.acceptRanges", "strconv.ErrSyntax", "strconv.ErrRange", "cresset/effort.zero", "cresset/detect.one", "internal/bytealg.MaxLen"], plainKeys := false, apart := false, laid := [("math/bits.deBruijn32tab", laid_math_bits_deBruijn32tab), ("math/bits.deBruijn64tab", laid_math_bits_deBruijn64tab), ("internal/strconv.uint64pow10", laid_internal_strconv_uint64pow10), ("unicode/utf8.acceptRanges", laid_unicode_utf8_acceptRanges), ("strconv.ErrRange", laid_strconv_ErrRange), ("strconv.ErrSyntax", laid_strconv_ErrSyntax), ("cresset/detect.zero", laid_cresset_detect_zero), ("cresset/detect.one", laid_cresset_detect_one), ("cresset/effort.zero", laid_cresset_effort_zero), ("unicode/utf8.first", laid_unicode_utf8_first)], narrowed := true }
def EffortImprovesUptoSaid : Prop := effortImprovesUptoRow.holds Tryz.pinned (OpenSpec.upto effortImprovesSpec)

/-- 'cressetlaw07.EffortBetter', WHERE WHAT IT READS IS OF BULK AT MOST 1048576: true; the input reads as it did. -/
def effortBetterUptoRow : OpenClaim := { program := "ytmpaflidennnoaagreatdoor", sum := "a94dc15fc530179d924c56e11b9ddcab7124e38710ced0ed8e8210aed03cd770", func := "cresset/cressetlaw07.EffortBetter", spec := "effortBetter", inPlace := ["internal/bytealg.IndexByteString", "internal/bytealg.IndexString", "math/bits.Add64", "internal/abi.NoEscape", "internal/bytealg.MakeNoZero"], unfollowed := true, recurses := true, named := ["cresset/detect.zero", "internal/strconv.uint64pow10", "math/bits.deBruijn32tab", "math/bits.deBruijn64tab", "unicode/utf8.first", "unicode/utf8.acceptRanges", "strconv.ErrSyntax", "strconv.ErrRange", "cresset/effort.zero", "cresset/detect.one", "internal/bytealg.MaxLen"], plainKeys := false, apart := false, laid := [("math/bits.deBruijn32tab", laid_math_bits_deBruijn32tab), ("math/bits.deBruijn64tab", laid_math_bits_deBruijn64tab), ("internal/strconv.uint64pow10", laid_internal_strconv_uint64pow10), ("unicode/utf8.acceptRanges", laid_unicode_utf8_acceptRanges), ("strconv.ErrRange", laid_strconv_ErrRange), ("strconv.ErrSyntax", laid_strconv_ErrSyntax), ("cresset/detect.zero", laid_cresset_detect_zero), ("cresset/detect.one", laid_cresset_detect_one), ("cresset/effort.zero", laid_cresset_effort_zero), ("unicode/utf8.first", laid_unicode_utf8_first)], narrowed := true }
def EffortBetterUptoSaid : Prop := effortBetterUptoRow.holds Tryz.pinned (OpenSpec.upto effortBetterSpec)

/-- 'cressetlaw07.EffortHours', WHERE WHAT IT READS IS OF BULK AT MOST 1048576: true; the input reads as it did. -/
def effortHoursUptoRow : OpenClaim := { program := "ytmpaflidennnoaagreatdoor", sum := "a94dc15fc530179d924c56e11b9ddcab7124e38710ced0ed8e8210aed03cd770", func := "cresset/cressetlaw07.EffortHours", spec := "effortHours", inPlace := ["internal/bytealg.IndexByteString", "internal/bytealg.IndexString", "math/bits.Add64", "internal/abi.NoEscape", "internal/bytealg.MakeNoZero"], unfollowed := true, recurses := true, named := ["cresset/detect.zero", "internal/strconv.uint64pow10", "math/bits.deBruijn32tab", "math/bits.deBruijn64tab", "unicode/utf8.first", "unicode/utf8.acceptRanges", "strconv.ErrSyntax", "strconv.ErrRange", "cresset/effort.zero", "cresset/detect.one", "internal/bytealg.MaxLen"], plainKeys := false, apart := false, laid := [("math/bits.deBruijn32tab", laid_math_bits_deBruijn32tab), ("math/bits.deBruijn64tab", laid_math_bits_deBruijn64tab), ("internal/strconv.uint64pow10", laid_internal_strconv_uint64pow10), ("unicode/utf8.acceptRanges", laid_unicode_utf8_acceptRanges), ("strconv.ErrRange", laid_strconv_ErrRange), ("strconv.ErrSyntax", laid_strconv_ErrSyntax), ("cresset/detect.zero", laid_cresset_detect_zero), ("cresset/detect.one", laid_cresset_detect_one), ("cresset/effort.zero", laid_cresset_effort_zero), ("unicode/utf8.first", laid_unicode_utf8_first)], narrowed := true }
def EffortHoursUptoSaid : Prop := effortHoursUptoRow.holds Tryz.pinned (OpenSpec.upto effortHoursSpec)

/-- 'cressetlaw07.EffortSolves', WHERE WHAT IT READS IS OF BULK AT MOST 1048576: true; the input reads as it did. -/
def effortSolvesUptoRow : OpenClaim := { program := "ytmpaflidennnoaagreatdoor", sum := "a94dc15fc530179d924c56e11b9ddcab7124e38710ced0ed8e8210aed03cd770", func := "cresset/cressetlaw07.EffortSolves", spec := "effortSolves", inPlace := ["internal/bytealg.IndexByteString", "internal/bytealg.IndexString", "math/bits.Add64", "internal/abi.NoEscape", "internal/bytealg.MakeNoZero"], unfollowed := true, recurses := true, named := ["cresset/detect.zero", "internal/strconv.uint64pow10", "math/bits.deBruijn32tab", "math/bits.deBruijn64tab", "unicode/utf8.first", "unicode/utf8.acceptRanges", "strconv.ErrSyntax", "strconv.ErrRange", "cresset/effort.zero", "cresset/detect.one", "internal/bytealg.MaxLen"], plainKeys := false, apart := false, laid := [("math/bits.deBruijn32tab", laid_math_bits_deBruijn32tab), ("math/bits.deBruijn64tab", laid_math_bits_deBruijn64tab), ("internal/strconv.uint64pow10", laid_internal_strconv_uint64pow10), ("unicode/utf8.acceptRanges", laid_unicode_utf8_acceptRanges), ("strconv.ErrRange", laid_strconv_ErrRange), ("strconv.ErrSyntax", laid_strconv_ErrSyntax), ("cresset/detect.zero", laid_cresset_detect_zero), ("cresset/detect.one", laid_cresset_detect_one), ("cresset/effort.zero", laid_cresset_effort_zero), ("unicode/utf8.first", laid_unicode_utf8_first)], narrowed := true }
def EffortSolvesUptoSaid : Prop := effortSolvesUptoRow.holds Tryz.pinned (OpenSpec.upto effortSolvesSpec)

/-- 'cressetlaw07.EffortBest', WHERE WHAT IT READS IS OF BULK AT MOST 1048576: true; the input reads as it did. -/
def effortBestUptoRow : OpenClaim := { program := "ytmpaflidennnoaagreatdoor", sum := "a94dc15fc530179d924c56e11b9ddcab7124e38710ced0ed8e8210aed03cd770", func := "cresset/cressetlaw07.EffortBest", spec := "effortBest", inPlace := ["internal/bytealg.IndexByteString", "internal/bytealg.IndexString", "math/bits.Add64", "internal/abi.NoEscape", "internal/bytealg.MakeNoZero"], unfollowed := true, recurses := true, named := ["cresset/detect.zero", "internal/strconv.uint64pow10", "math/bits.deBruijn32tab", "math/bits.deBruijn64tab", "unicode/utf8.first", "unicode/utf8.acceptRanges", "strconv.ErrSyntax", "strconv.ErrRange", "cresset/effort.zero", "cresset/detect.one", "internal/bytealg.MaxLen"], plainKeys := false, apart := false, laid := [("math/bits.deBruijn32tab", laid_math_bits_deBruijn32tab), ("math/bits.deBruijn64tab", laid_math_bits_deBruijn64tab), ("internal/strconv.uint64pow10", laid_internal_strconv_uint64pow10), ("unicode/utf8.acceptRanges", laid_unicode_utf8_acceptRanges), ("strconv.ErrRange", laid_strconv_ErrRange), ("strconv.ErrSyntax", laid_strconv_ErrSyntax), ("cresset/detect.zero", laid_cresset_detect_zero), ("cresset/detect.one", laid_cresset_detect_one), ("cresset/effort.zero", laid_cresset_effort_zero), ("unicode/utf8.first", laid_unicode_utf8_first)], narrowed := true }
def EffortBestUptoSaid : Prop := effortBestUptoRow.holds Tryz.pinned (OpenSpec.upto effortBestSpec)

/-- 'cressetlaw07.EffortNames', WHERE WHAT IT READS IS OF BULK AT MOST 1048576: true; the input reads as it did. -/
def effortNamesUptoRow : OpenClaim := { program := "ytmpaflidennnoaagreatdoor", sum := "a94dc15fc530179d924c56e11b9ddcab7124e38710ced0ed8e8210aed03cd770", func := "cresset/cressetlaw07.EffortNames", spec := "effortNames", inPlace := ["internal/bytealg.IndexByteString", "internal/bytealg.IndexString", "math/bits.Add64", "internal/abi.NoEscape", "internal/bytealg.MakeNoZero"], unfollowed := true, recurses := true, named := ["cresset/detect.zero", "internal/strconv.uint64pow10", "math/bits.deBruijn32tab", "math/bits.deBruijn64tab", "unicode/utf8.first", "unicode/utf8.acceptRanges", "strconv.ErrSyntax", "strconv.ErrRange", "cresset/effort.zero", "cresset/detect.one", "internal/bytealg.MaxLen"], plainKeys := false, apart := false, laid := [("math/bits.deBruijn32tab", laid_math_bits_deBruijn32tab), ("math/bits.deBruijn64tab", laid_math_bits_deBruijn64tab), ("internal/strconv.uint64pow10", laid_internal_strconv_uint64pow10), ("unicode/utf8.acceptRanges", laid_unicode_utf8_acceptRanges), ("strconv.ErrRange", laid_strconv_ErrRange), ("strconv.ErrSyntax", laid_strconv_ErrSyntax), ("cresset/detect.zero", laid_cresset_detect_zero), ("cresset/detect.one", laid_cresset_detect_one), ("cresset/effort.zero", laid_cresset_effort_zero), ("unicode/utf8.first", laid_unicode_utf8_first)], narrowed := true }
def EffortNamesUptoSaid : Prop := effortNamesUptoRow.holds Tryz.pinned (OpenSpec.upto effortNamesSpec)

end Rows
end Go.Proofs.YtmpaflidennnoaaGreatDoor
