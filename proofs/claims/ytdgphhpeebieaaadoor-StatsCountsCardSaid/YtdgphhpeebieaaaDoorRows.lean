/-
  NARROWER THAN 'FOR EVERY INPUT', by the rows' own cells (each row's printed sentence says how): ChanceCounts: laid · ChanceMore: laid · ChanceAdmits: laid · ChanceRates: laid · ChanceOrders: laid · ChanceClamps: laid · StatsAnd: laid · ChanceTexts: laid · StatsCounts: laid · StatsTexts: laid.
  DERIVED. THE GIVEN ROWS OF THIS SEAT. 10 by the template 'for every input the law returns true; each argument reads behind the call as it read before'; 0 by the template 'total and deterministic' (their statements: YtdgphhpeebieaaaDoorTotals.lean).
  GIVEN WITH THE SEED: the statements are not yours to turn. If you find one false, say at which input.
  Laid BY PROGRAM, IN A SANDBOX (cutbox-rows.mjs): the forced cells as the released guide's own fill.sh prints them over the translation 8c5166a455fb7bec… (all of the seat's roots in one cut). By AI agents, Wed Nov 11 2026. No macro, syntax, notation, axiom, sorry.
-/
import Derived.Test.YtdgphhpeebieaaaDoorChecked
import GoSem.PinnedTables
import GoSem.Claim
import GoSem.ClaimJoined
import GoSem.ClaimMapViews
import Derived.JoinedTies
import Derived.KernelRfl
namespace Go.Proofs.YtdgphhpeebieaaaDoor
/- THE CELL 'sum', in the pinned program and in every row, IS THE sha256 OF THE DUMP (.gsa) THAT YtdgphhpeebieaaaDoorProg.lean LOADS. Nothing in Lean hashes anything: it is a label: what it is worth is what the hold of that sum in a sandbox is worth. -/
noncomputable def Tryd.pinned : Pinned := { name := "ytdgphhpeebieaaadoor", sum := "8c5166a455fb7becd50b758b21d8b552f0fc5c49d2cb2ebb2cedecdb237579e3", checked := Tryd.checked }
namespace Rows
def none {H : Type} : Left H := { results := [], args := [] }

/- WHAT THE LISTED PACKAGE-LEVEL VARIABLES READ AS WHEN THE CALL BEGINS. Each datum BY PROGRAM (the guide's laid-datum.mjs) off the statement by which the dump's own 'gosem.cut.vars' lays the variable. In a bare row this is a premise. The card (YtdgphhpeebieaaaDoorCards.lean) ties it to the program's text. -/
def laid_math_bits_deBruijn32tab {H : Type} : DataW H := .agg [.lit (.int .u8 0), .lit (.int .u8 1), .lit (.int .u8 28), .lit (.int .u8 2), .lit (.int .u8 29), .lit (.int .u8 14), .lit (.int .u8 24), .lit (.int .u8 3), .lit (.int .u8 30), .lit (.int .u8 22), .lit (.int .u8 20), .lit (.int .u8 15), .lit (.int .u8 25), .lit (.int .u8 17), .lit (.int .u8 4), .lit (.int .u8 8), .lit (.int .u8 31), .lit (.int .u8 27), .lit (.int .u8 13), .lit (.int .u8 23), .lit (.int .u8 21), .lit (.int .u8 19), .lit (.int .u8 16), .lit (.int .u8 7), .lit (.int .u8 26), .lit (.int .u8 12), .lit (.int .u8 18), .lit (.int .u8 6), .lit (.int .u8 11), .lit (.int .u8 5), .lit (.int .u8 10), .lit (.int .u8 9)]
def laid_math_bits_deBruijn64tab {H : Type} : DataW H := .agg [.lit (.int .u8 0), .lit (.int .u8 1), .lit (.int .u8 56), .lit (.int .u8 2), .lit (.int .u8 57), .lit (.int .u8 49), .lit (.int .u8 28), .lit (.int .u8 3), .lit (.int .u8 61), .lit (.int .u8 58), .lit (.int .u8 42), .lit (.int .u8 50), .lit (.int .u8 38), .lit (.int .u8 29), .lit (.int .u8 17), .lit (.int .u8 4), .lit (.int .u8 62), .lit (.int .u8 47), .lit (.int .u8 59), .lit (.int .u8 36), .lit (.int .u8 45), .lit (.int .u8 43), .lit (.int .u8 51), .lit (.int .u8 22), .lit (.int .u8 53), .lit (.int .u8 39), .lit (.int .u8 33), .lit (.int .u8 30), .lit (.int .u8 24), .lit (.int .u8 18), .lit (.int .u8 12), .lit (.int .u8 5), .lit (.int .u8 63), .lit (.int .u8 55), .lit (.int .u8 48), .lit (.int .u8 27), .lit (.int .u8 60), .lit (.int .u8 41), .lit (.int .u8 37), .lit (.int .u8 16), .lit (.int .u8 46), .lit (.int .u8 35), .lit (.int .u8 44), .lit (.int .u8 21), .lit (.int .u8 52), .lit (.int .u8 32), .lit (.int .u8 23), .lit (.int .u8 11), .lit (.int .u8 54), .lit (.int .u8 26), .lit (.int .u8 40), .lit (.int .u8 15), .lit (.int .u8 34), .lit (.int .u8 20), .lit (.int .u8 31), .lit (.int .u8 10), .lit (.int .u8 25), .lit (.int .u8 14), .lit (.int .u8 19), .lit (.int .u8 9), .lit (.int .u8 13), .lit (.int .u8 8), .lit (.int .u8 7), .lit (.int .u8 6)]
def laid_internal_strconv_uint64pow10 {H : Type} : DataW H := .agg [.lit (.int .u64 1), .lit (.int .u64 10), .lit (.int .u64 100), .lit (.int .u64 1000), .lit (.int .u64 10000), .lit (.int .u64 100000), .lit (.int .u64 1000000), .lit (.int .u64 10000000), .lit (.int .u64 100000000), .lit (.int .u64 1000000000), .lit (.int .u64 10000000000), .lit (.int .u64 100000000000), .lit (.int .u64 1000000000000), .lit (.int .u64 10000000000000), .lit (.int .u64 100000000000000), .lit (.int .u64 1000000000000000), .lit (.int .u64 10000000000000000), .lit (.int .u64 100000000000000000), .lit (.int .u64 1000000000000000000), .lit (.int .u64 10000000000000000000)]
def laid_strconv_ErrRange {H : Type} : DataW H := .iface "*errors.errorString" (.ptr (.agg [.lit (.string [118, 97, 108, 117, 101, 32, 111, 117, 116, 32, 111, 102, 32, 114, 97, 110, 103, 101])]))
def laid_strconv_ErrSyntax {H : Type} : DataW H := .iface "*errors.errorString" (.ptr (.agg [.lit (.string [105, 110, 118, 97, 108, 105, 100, 32, 115, 121, 110, 116, 97, 120])]))
def laid_unicode_utf8_acceptRanges {H : Type} : DataW H := .agg [.agg [.lit (.int .u8 128), .lit (.int .u8 191)], .agg [.lit (.int .u8 160), .lit (.int .u8 191)], .agg [.lit (.int .u8 128), .lit (.int .u8 159)], .agg [.lit (.int .u8 144), .lit (.int .u8 191)], .agg [.lit (.int .u8 128), .lit (.int .u8 143)], .agg [.lit (.int .u8 0), .lit (.int .u8 0)], .agg [.lit (.int .u8 0), .lit (.int .u8 0)], .agg [.lit (.int .u8 0), .lit (.int .u8 0)], .agg [.lit (.int .u8 0), .lit (.int .u8 0)], .agg [.lit (.int .u8 0), .lit (.int .u8 0)], .agg [.lit (.int .u8 0), .lit (.int .u8 0)], .agg [.lit (.int .u8 0), .lit (.int .u8 0)], .agg [.lit (.int .u8 0), .lit (.int .u8 0)], .agg [.lit (.int .u8 0), .lit (.int .u8 0)], .agg [.lit (.int .u8 0), .lit (.int .u8 0)], .agg [.lit (.int .u8 0), .lit (.int .u8 0)]]
/-- One of Go's own tables, pinned by name: the form's constant. -/
def laid_unicode_utf8_first : DataW Unit := Go.Pinned.utf8First

/-- 'bandolierlaw04.ChanceCounts': WHATEVER THE INPUT: true; the input reads as it did. -/
def chanceCountsSpec : ChangeSpec := { name := "chanceCounts", fn := fun _ => fun
  | [d1, d2] => { results := [.lit (.bool true)], args := [d1, d2] }
  | _ => none }
def chanceCountsRow : OpenClaim := { program := "ytdgphhpeebieaaadoor", sum := "8c5166a455fb7becd50b758b21d8b552f0fc5c49d2cb2ebb2cedecdb237579e3", func := "bandolier/bandolierlaw04.ChanceCounts", spec := "chanceCounts", inPlace := ["math.Float64bits", "math.Float64frombits", "internal/abi.NoEscape", "internal/bytealg.MakeNoZero"], named := ["internal/strconv.uint64pow10", "math/bits.deBruijn32tab", "math/bits.deBruijn64tab"], apart := false, laid := [("math/bits.deBruijn32tab", laid_math_bits_deBruijn32tab), ("math/bits.deBruijn64tab", laid_math_bits_deBruijn64tab), ("internal/strconv.uint64pow10", laid_internal_strconv_uint64pow10)] }
def ChanceCountsSaid : Prop := chanceCountsRow.holds Tryd.pinned (OpenSpec.ofChange chanceCountsSpec)

/-- ITS FALSE NEIGHBOUR: 'it returns false'. Refute it at one input. -/
def chanceCountsWrong : ChangeSpec := { name := "chanceCounts", fn := fun _ => fun
  | [d1, d2] => { results := [.lit (.bool false)], args := [d1, d2] }
  | _ => none }
def ChanceCountsWrongFalsely : Prop := chanceCountsRow.holds Tryd.pinned (OpenSpec.ofChange chanceCountsWrong)

/-- 'bandolierlaw04.ChanceMore': WHATEVER THE INPUT: true; the input reads as it did. -/
def chanceMoreSpec : ChangeSpec := { name := "chanceMore", fn := fun _ => fun
  | [d1, d2, d3] => { results := [.lit (.bool true)], args := [d1, d2, d3] }
  | _ => none }
def chanceMoreRow : OpenClaim := { program := "ytdgphhpeebieaaadoor", sum := "8c5166a455fb7becd50b758b21d8b552f0fc5c49d2cb2ebb2cedecdb237579e3", func := "bandolier/bandolierlaw04.ChanceMore", spec := "chanceMore", inPlace := ["math.Float64bits", "math.Float64frombits", "internal/abi.NoEscape", "internal/bytealg.MakeNoZero"], named := ["internal/strconv.uint64pow10", "math/bits.deBruijn32tab", "math/bits.deBruijn64tab"], apart := false, laid := [("math/bits.deBruijn32tab", laid_math_bits_deBruijn32tab), ("math/bits.deBruijn64tab", laid_math_bits_deBruijn64tab), ("internal/strconv.uint64pow10", laid_internal_strconv_uint64pow10)] }
def ChanceMoreSaid : Prop := chanceMoreRow.holds Tryd.pinned (OpenSpec.ofChange chanceMoreSpec)

/-- ITS FALSE NEIGHBOUR: 'it returns false'. Refute it at one input. -/
def chanceMoreWrong : ChangeSpec := { name := "chanceMore", fn := fun _ => fun
  | [d1, d2, d3] => { results := [.lit (.bool false)], args := [d1, d2, d3] }
  | _ => none }
def ChanceMoreWrongFalsely : Prop := chanceMoreRow.holds Tryd.pinned (OpenSpec.ofChange chanceMoreWrong)

/-- 'bandolierlaw04.ChanceAdmits': WHATEVER THE INPUT: true; the input reads as it did. -/
def chanceAdmitsSpec : ChangeSpec := { name := "chanceAdmits", fn := fun _ => fun
  | [d1, d2] => { results := [.lit (.bool true)], args := [d1, d2] }
  | _ => none }
def chanceAdmitsRow : OpenClaim := { program := "ytdgphhpeebieaaadoor", sum := "8c5166a455fb7becd50b758b21d8b552f0fc5c49d2cb2ebb2cedecdb237579e3", func := "bandolier/bandolierlaw04.ChanceAdmits", spec := "chanceAdmits", inPlace := ["math.Float64bits", "math.Float64frombits", "internal/abi.NoEscape", "internal/bytealg.MakeNoZero"], named := ["internal/strconv.uint64pow10", "math/bits.deBruijn32tab", "math/bits.deBruijn64tab"], apart := false, laid := [("math/bits.deBruijn32tab", laid_math_bits_deBruijn32tab), ("math/bits.deBruijn64tab", laid_math_bits_deBruijn64tab), ("internal/strconv.uint64pow10", laid_internal_strconv_uint64pow10)] }
def ChanceAdmitsSaid : Prop := chanceAdmitsRow.holds Tryd.pinned (OpenSpec.ofChange chanceAdmitsSpec)

/-- ITS FALSE NEIGHBOUR: 'it returns false'. Refute it at one input. -/
def chanceAdmitsWrong : ChangeSpec := { name := "chanceAdmits", fn := fun _ => fun
  | [d1, d2] => { results := [.lit (.bool false)], args := [d1, d2] }
  | _ => none }
def ChanceAdmitsWrongFalsely : Prop := chanceAdmitsRow.holds Tryd.pinned (OpenSpec.ofChange chanceAdmitsWrong)

/-- 'bandolierlaw04.ChanceRates': WHATEVER THE INPUT: true; the input reads as it did. -/
def chanceRatesSpec : ChangeSpec := { name := "chanceRates", fn := fun _ => fun
  | [d] => { results := [.lit (.bool true)], args := [d] }
  | _ => none }
def chanceRatesRow : OpenClaim := { program := "ytdgphhpeebieaaadoor", sum := "8c5166a455fb7becd50b758b21d8b552f0fc5c49d2cb2ebb2cedecdb237579e3", func := "bandolier/bandolierlaw04.ChanceRates", spec := "chanceRates", inPlace := ["math.Float64bits", "math.Float64frombits", "internal/abi.NoEscape", "internal/bytealg.MakeNoZero"], named := ["internal/strconv.uint64pow10", "math/bits.deBruijn32tab", "math/bits.deBruijn64tab"], apart := false, laid := [("math/bits.deBruijn32tab", laid_math_bits_deBruijn32tab), ("math/bits.deBruijn64tab", laid_math_bits_deBruijn64tab), ("internal/strconv.uint64pow10", laid_internal_strconv_uint64pow10)] }
def ChanceRatesSaid : Prop := chanceRatesRow.holds Tryd.pinned (OpenSpec.ofChange chanceRatesSpec)

/-- ITS FALSE NEIGHBOUR: 'it returns false'. Refute it at one input. -/
def chanceRatesWrong : ChangeSpec := { name := "chanceRates", fn := fun _ => fun
  | [d] => { results := [.lit (.bool false)], args := [d] }
  | _ => none }
def ChanceRatesWrongFalsely : Prop := chanceRatesRow.holds Tryd.pinned (OpenSpec.ofChange chanceRatesWrong)

/-- 'bandolierlaw04.ChanceOrders': WHATEVER THE INPUT: true; the input reads as it did. -/
def chanceOrdersSpec : ChangeSpec := { name := "chanceOrders", fn := fun _ => fun
  | [d1, d2, d3] => { results := [.lit (.bool true)], args := [d1, d2, d3] }
  | _ => none }
def chanceOrdersRow : OpenClaim := { program := "ytdgphhpeebieaaadoor", sum := "8c5166a455fb7becd50b758b21d8b552f0fc5c49d2cb2ebb2cedecdb237579e3", func := "bandolier/bandolierlaw04.ChanceOrders", spec := "chanceOrders", inPlace := ["math.Float64bits", "math.Float64frombits", "internal/abi.NoEscape", "internal/bytealg.MakeNoZero"], named := ["internal/strconv.uint64pow10", "math/bits.deBruijn32tab", "math/bits.deBruijn64tab"], apart := false, laid := [("math/bits.deBruijn32tab", laid_math_bits_deBruijn32tab), ("math/bits.deBruijn64tab", laid_math_bits_deBruijn64tab), ("internal/strconv.uint64pow10", laid_internal_strconv_uint64pow10)] }
def ChanceOrdersSaid : Prop := chanceOrdersRow.holds Tryd.pinned (OpenSpec.ofChange chanceOrdersSpec)

/-- ITS FALSE NEIGHBOUR: 'it returns false'. Refute it at one input. -/
def chanceOrdersWrong : ChangeSpec := { name := "chanceOrders", fn := fun _ => fun
  | [d1, d2, d3] => { results := [.lit (.bool false)], args := [d1, d2, d3] }
  | _ => none }
def ChanceOrdersWrongFalsely : Prop := chanceOrdersRow.holds Tryd.pinned (OpenSpec.ofChange chanceOrdersWrong)

/-- 'bandolierlaw04.ChanceClamps': WHATEVER THE INPUT: true; the input reads as it did. -/
def chanceClampsSpec : ChangeSpec := { name := "chanceClamps", fn := fun _ => fun
  | [d1, d2, d3] => { results := [.lit (.bool true)], args := [d1, d2, d3] }
  | _ => none }
def chanceClampsRow : OpenClaim := { program := "ytdgphhpeebieaaadoor", sum := "8c5166a455fb7becd50b758b21d8b552f0fc5c49d2cb2ebb2cedecdb237579e3", func := "bandolier/bandolierlaw04.ChanceClamps", spec := "chanceClamps", inPlace := ["math.Float64bits", "math.Float64frombits", "internal/abi.NoEscape", "internal/bytealg.MakeNoZero"], named := ["internal/strconv.uint64pow10", "math/bits.deBruijn32tab", "math/bits.deBruijn64tab"], apart := false, laid := [("math/bits.deBruijn32tab", laid_math_bits_deBruijn32tab), ("math/bits.deBruijn64tab", laid_math_bits_deBruijn64tab), ("internal/strconv.uint64pow10", laid_internal_strconv_uint64pow10)] }
def ChanceClampsSaid : Prop := chanceClampsRow.holds Tryd.pinned (OpenSpec.ofChange chanceClampsSpec)

/-- ITS FALSE NEIGHBOUR: 'it returns false'. Refute it at one input. -/
def chanceClampsWrong : ChangeSpec := { name := "chanceClamps", fn := fun _ => fun
  | [d1, d2, d3] => { results := [.lit (.bool false)], args := [d1, d2, d3] }
  | _ => none }
def ChanceClampsWrongFalsely : Prop := chanceClampsRow.holds Tryd.pinned (OpenSpec.ofChange chanceClampsWrong)

/-- 'bandolierlaw22.StatsAnd': WHATEVER THE INPUT: true; the input reads as it did. -/
def statsAndSpec : ChangeSpec := { name := "statsAnd", fn := fun _ => fun
  | [d1, d2, d3] => { results := [.lit (.bool true)], args := [d1, d2, d3] }
  | _ => none }
def statsAndRow : OpenClaim := { program := "ytdgphhpeebieaaadoor", sum := "8c5166a455fb7becd50b758b21d8b552f0fc5c49d2cb2ebb2cedecdb237579e3", func := "bandolier/bandolierlaw22.StatsAnd", spec := "statsAnd", inPlace := ["math.Float64frombits", "math.Float64bits", "internal/abi.NoEscape", "internal/bytealg.MakeNoZero"], named := ["internal/strconv.uint64pow10", "math/bits.deBruijn32tab", "math/bits.deBruijn64tab"], apart := false, laid := [("math/bits.deBruijn32tab", laid_math_bits_deBruijn32tab), ("math/bits.deBruijn64tab", laid_math_bits_deBruijn64tab), ("internal/strconv.uint64pow10", laid_internal_strconv_uint64pow10)] }
def StatsAndSaid : Prop := statsAndRow.holds Tryd.pinned (OpenSpec.ofChange statsAndSpec)

/-- ITS FALSE NEIGHBOUR: 'it returns false'. Refute it at one input. -/
def statsAndWrong : ChangeSpec := { name := "statsAnd", fn := fun _ => fun
  | [d1, d2, d3] => { results := [.lit (.bool false)], args := [d1, d2, d3] }
  | _ => none }
def StatsAndWrongFalsely : Prop := statsAndRow.holds Tryd.pinned (OpenSpec.ofChange statsAndWrong)

/-- 'bandolierlaw04.ChanceTexts': WHATEVER THE INPUT: true; the input reads as it did. -/
def chanceTextsSpec : ChangeSpec := { name := "chanceTexts", fn := fun _ => fun
  | [d1, d2] => { results := [.lit (.bool true)], args := [d1, d2] }
  | _ => none }
def chanceTextsRow : OpenClaim := { program := "ytdgphhpeebieaaadoor", sum := "8c5166a455fb7becd50b758b21d8b552f0fc5c49d2cb2ebb2cedecdb237579e3", func := "bandolier/bandolierlaw04.ChanceTexts", spec := "chanceTexts", inPlace := ["math.Float64bits", "math.Float64frombits", "internal/abi.NoEscape", "internal/bytealg.MakeNoZero"], named := ["internal/strconv.uint64pow10", "math/bits.deBruijn32tab", "math/bits.deBruijn64tab", "strconv.ErrSyntax", "strconv.ErrRange"], apart := false, laid := [("math/bits.deBruijn32tab", laid_math_bits_deBruijn32tab), ("math/bits.deBruijn64tab", laid_math_bits_deBruijn64tab), ("internal/strconv.uint64pow10", laid_internal_strconv_uint64pow10), ("strconv.ErrRange", laid_strconv_ErrRange), ("strconv.ErrSyntax", laid_strconv_ErrSyntax)] }
def ChanceTextsSaid : Prop := chanceTextsRow.holds Tryd.pinned (OpenSpec.ofChange chanceTextsSpec)

/-- ITS FALSE NEIGHBOUR: 'it returns false'. Refute it at one input. -/
def chanceTextsWrong : ChangeSpec := { name := "chanceTexts", fn := fun _ => fun
  | [d1, d2] => { results := [.lit (.bool false)], args := [d1, d2] }
  | _ => none }
def ChanceTextsWrongFalsely : Prop := chanceTextsRow.holds Tryd.pinned (OpenSpec.ofChange chanceTextsWrong)

/-- 'bandolierlaw22.StatsCounts': WHATEVER THE INPUT: true; the input reads as it did. -/
def statsCountsSpec : ChangeSpec := { name := "statsCounts", fn := fun _ => fun
  | [d] => { results := [.lit (.bool true)], args := [d] }
  | _ => none }
def statsCountsRow : OpenClaim := { program := "ytdgphhpeebieaaadoor", sum := "8c5166a455fb7becd50b758b21d8b552f0fc5c49d2cb2ebb2cedecdb237579e3", func := "bandolier/bandolierlaw22.StatsCounts", spec := "statsCounts", inPlace := ["math.Float64frombits", "math.Float64bits", "internal/bytealg.CountString", "internal/bytealg.IndexByteString", "internal/bytealg.IndexString", "internal/abi.NoEscape", "internal/bytealg.MakeNoZero"], named := ["unicode/utf8.first", "unicode/utf8.acceptRanges", "internal/bytealg.MaxLen", "strconv.ErrSyntax", "strconv.ErrRange", "internal/strconv.uint64pow10", "math/bits.deBruijn32tab", "math/bits.deBruijn64tab"], apart := false, laid := [("math/bits.deBruijn32tab", laid_math_bits_deBruijn32tab), ("math/bits.deBruijn64tab", laid_math_bits_deBruijn64tab), ("internal/strconv.uint64pow10", laid_internal_strconv_uint64pow10), ("unicode/utf8.acceptRanges", laid_unicode_utf8_acceptRanges), ("strconv.ErrRange", laid_strconv_ErrRange), ("strconv.ErrSyntax", laid_strconv_ErrSyntax), ("unicode/utf8.first", laid_unicode_utf8_first)] }
def StatsCountsSaid : Prop := statsCountsRow.holds Tryd.pinned (OpenSpec.ofChange statsCountsSpec)

/-- ITS FALSE NEIGHBOUR: 'it returns false'. Refute it at one input. -/
def statsCountsWrong : ChangeSpec := { name := "statsCounts", fn := fun _ => fun
  | [d] => { results := [.lit (.bool false)], args := [d] }
  | _ => none }
def StatsCountsWrongFalsely : Prop := statsCountsRow.holds Tryd.pinned (OpenSpec.ofChange statsCountsWrong)

/-- 'bandolierlaw22.StatsTexts': WHATEVER THE INPUT: true; the input reads as it did. -/
def statsTextsSpec : ChangeSpec := { name := "statsTexts", fn := fun _ => fun
  | [d] => { results := [.lit (.bool true)], args := [d] }
  | _ => none }
def statsTextsRow : OpenClaim := { program := "ytdgphhpeebieaaadoor", sum := "8c5166a455fb7becd50b758b21d8b552f0fc5c49d2cb2ebb2cedecdb237579e3", func := "bandolier/bandolierlaw22.StatsTexts", spec := "statsTexts", inPlace := ["internal/bytealg.CountString", "internal/bytealg.IndexByteString", "internal/bytealg.IndexString", "math.Float64frombits", "math.Float64bits", "internal/abi.NoEscape", "internal/bytealg.MakeNoZero"], named := ["unicode/utf8.first", "unicode/utf8.acceptRanges", "internal/bytealg.MaxLen", "strconv.ErrSyntax", "strconv.ErrRange", "internal/strconv.uint64pow10", "math/bits.deBruijn32tab", "math/bits.deBruijn64tab"], apart := false, laid := [("math/bits.deBruijn32tab", laid_math_bits_deBruijn32tab), ("math/bits.deBruijn64tab", laid_math_bits_deBruijn64tab), ("internal/strconv.uint64pow10", laid_internal_strconv_uint64pow10), ("unicode/utf8.acceptRanges", laid_unicode_utf8_acceptRanges), ("strconv.ErrRange", laid_strconv_ErrRange), ("strconv.ErrSyntax", laid_strconv_ErrSyntax), ("unicode/utf8.first", laid_unicode_utf8_first)] }
def StatsTextsSaid : Prop := statsTextsRow.holds Tryd.pinned (OpenSpec.ofChange statsTextsSpec)

/-- ITS FALSE NEIGHBOUR: 'it returns false'. Refute it at one input. -/
def statsTextsWrong : ChangeSpec := { name := "statsTexts", fn := fun _ => fun
  | [d] => { results := [.lit (.bool false)], args := [d] }
  | _ => none }
def StatsTextsWrongFalsely : Prop := statsTextsRow.holds Tryd.pinned (OpenSpec.ofChange statsTextsWrong)

/- THE SECOND FORM. 'bulk': how many values and letters a reading holds, each counted each time it is reached (what is shared counts as often as it is met; a slice's spare places count too). A statement '..UptoSaid' is the law's where the arguments, and the package variables that the reading takes, are together of bulk at most 1048576: NARROWER than '..Said'. Prove '..Said' where nothing that the law and all that it calls make is longer than what came in: it says more and counts as full. Else prove '..UptoSaid'. A law counts once. -/
mutual
def uptoBulk {H : Type} : DataW H → Nat
  | .lit (.string bytes) => bytes.length + 1
  | .lit _ => 1
  | .nil => 1
  | .ptr d => uptoBulk d + 1
  | .slice elems spare => uptoBulkAll elems + uptoBulkAll spare + 1
  | .agg parts => uptoBulkAll parts + 1
  | .iface _ d => uptoBulk d + 1
  | .map entries => uptoBulkEntries entries + 1
  | .held _ => 1
def uptoBulkAll {H : Type} : List (DataW H) → Nat
  | [] => 0
  | d :: r => uptoBulk d + uptoBulkAll r
def uptoBulkEntries {H : Type} : List (Lit × DataW H) → Nat
  | [] => 0
  | x :: r => uptoBulkEntry x + uptoBulkEntries r
def uptoBulkEntry {H : Type} : Lit × DataW H → Nat
  | (.string bytes, d) => bytes.length + uptoBulk d + 1
  | (_, d) => uptoBulk d + 1
 end
def uptoSmall : (H : Type) → List (DataW H) → Bool := fun _ ds => decide (uptoBulkAll ds ≤ 1048576)
def OpenSpec.upto (s : _root_.Go.ChangeSpec) : _root_.Go.OpenSpec := { _root_.Go.OpenSpec.ofChange s with cond := some uptoSmall }

/-- 'bandolierlaw04.ChanceCounts', WHERE WHAT IT READS IS OF BULK AT MOST 1048576: true; the input reads as it did. -/
def chanceCountsUptoRow : OpenClaim := { program := "ytdgphhpeebieaaadoor", sum := "8c5166a455fb7becd50b758b21d8b552f0fc5c49d2cb2ebb2cedecdb237579e3", func := "bandolier/bandolierlaw04.ChanceCounts", spec := "chanceCounts", inPlace := ["math.Float64bits", "math.Float64frombits", "internal/abi.NoEscape", "internal/bytealg.MakeNoZero"], named := ["internal/strconv.uint64pow10", "math/bits.deBruijn32tab", "math/bits.deBruijn64tab"], apart := false, laid := [("math/bits.deBruijn32tab", laid_math_bits_deBruijn32tab), ("math/bits.deBruijn64tab", laid_math_bits_deBruijn64tab), ("internal/strconv.uint64pow10", laid_internal_strconv_uint64pow10)], narrowed := true }
def ChanceCountsUptoSaid : Prop := chanceCountsUptoRow.holds Tryd.pinned (OpenSpec.upto chanceCountsSpec)

/-- 'bandolierlaw04.ChanceMore', WHERE WHAT IT READS IS OF BULK AT MOST 1048576: true; the input reads as it did. -/
def chanceMoreUptoRow : OpenClaim := { program := "ytdgphhpeebieaaadoor", sum := "8c5166a455fb7becd50b758b21d8b552f0fc5c49d2cb2ebb2cedecdb237579e3", func := "bandolier/bandolierlaw04.ChanceMore", spec := "chanceMore", inPlace := ["math.Float64bits", "math.Float64frombits", "internal/abi.NoEscape", "internal/bytealg.MakeNoZero"], named := ["internal/strconv.uint64pow10", "math/bits.deBruijn32tab", "math/bits.deBruijn64tab"], apart := false, laid := [("math/bits.deBruijn32tab", laid_math_bits_deBruijn32tab), ("math/bits.deBruijn64tab", laid_math_bits_deBruijn64tab), ("internal/strconv.uint64pow10", laid_internal_strconv_uint64pow10)], narrowed := true }
def ChanceMoreUptoSaid : Prop := chanceMoreUptoRow.holds Tryd.pinned (OpenSpec.upto chanceMoreSpec)

/-- 'bandolierlaw04.ChanceAdmits', WHERE WHAT IT READS IS OF BULK AT MOST 1048576: true; the input reads as it did. -/
def chanceAdmitsUptoRow : OpenClaim := { program := "ytdgphhpeebieaaadoor", sum := "8c5166a455fb7becd50b758b21d8b552f0fc5c49d2cb2ebb2cedecdb237579e3", func := "bandolier/bandolierlaw04.ChanceAdmits", spec := "chanceAdmits", inPlace := ["math.Float64bits", "math.Float64frombits", "internal/abi.NoEscape", "internal/bytealg.MakeNoZero"], named := ["internal/strconv.uint64pow10", "math/bits.deBruijn32tab", "math/bits.deBruijn64tab"], apart := false, laid := [("math/bits.deBruijn32tab", laid_math_bits_deBruijn32tab), ("math/bits.deBruijn64tab", laid_math_bits_deBruijn64tab), ("internal/strconv.uint64pow10", laid_internal_strconv_uint64pow10)], narrowed := true }
def ChanceAdmitsUptoSaid : Prop := chanceAdmitsUptoRow.holds Tryd.pinned (OpenSpec.upto chanceAdmitsSpec)

/-- 'bandolierlaw04.ChanceRates', WHERE WHAT IT READS IS OF BULK AT MOST 1048576: true; the input reads as it did. -/
def chanceRatesUptoRow : OpenClaim := { program := "ytdgphhpeebieaaadoor", sum := "8c5166a455fb7becd50b758b21d8b552f0fc5c49d2cb2ebb2cedecdb237579e3", func := "bandolier/bandolierlaw04.ChanceRates", spec := "chanceRates", inPlace := ["math.Float64bits", "math.Float64frombits", "internal/abi.NoEscape", "internal/bytealg.MakeNoZero"], named := ["internal/strconv.uint64pow10", "math/bits.deBruijn32tab", "math/bits.deBruijn64tab"], apart := false, laid := [("math/bits.deBruijn32tab", laid_math_bits_deBruijn32tab), ("math/bits.deBruijn64tab", laid_math_bits_deBruijn64tab), ("internal/strconv.uint64pow10", laid_internal_strconv_uint64pow10)], narrowed := true }
def ChanceRatesUptoSaid : Prop := chanceRatesUptoRow.holds Tryd.pinned (OpenSpec.upto chanceRatesSpec)

/-- 'bandolierlaw04.ChanceOrders', WHERE WHAT IT READS IS OF BULK AT MOST 1048576: true; the input reads as it did. -/
def chanceOrdersUptoRow : OpenClaim := { program := "ytdgphhpeebieaaadoor", sum := "8c5166a455fb7becd50b758b21d8b552f0fc5c49d2cb2ebb2cedecdb237579e3", func := "bandolier/bandolierlaw04.ChanceOrders", spec := "chanceOrders", inPlace := ["math.Float64bits", "math.Float64frombits", "internal/abi.NoEscape", "internal/bytealg.MakeNoZero"], named := ["internal/strconv.uint64pow10", "math/bits.deBruijn32tab", "math/bits.deBruijn64tab"], apart := false, laid := [("math/bits.deBruijn32tab", laid_math_bits_deBruijn32tab), ("math/bits.deBruijn64tab", laid_math_bits_deBruijn64tab), ("internal/strconv.uint64pow10", laid_internal_strconv_uint64pow10)], narrowed := true }
def ChanceOrdersUptoSaid : Prop := chanceOrdersUptoRow.holds Tryd.pinned (OpenSpec.upto chanceOrdersSpec)

/-- 'bandolierlaw04.ChanceClamps', WHERE WHAT IT READS IS OF BULK AT MOST 1048576: true; the input reads as it did. -/
def chanceClampsUptoRow : OpenClaim := { program := "ytdgphhpeebieaaadoor", sum := "8c5166a455fb7becd50b758b21d8b552f0fc5c49d2cb2ebb2cedecdb237579e3", func := "bandolier/bandolierlaw04.ChanceClamps", spec := "chanceClamps", inPlace := ["math.Float64bits", "math.Float64frombits", "internal/abi.NoEscape", "internal/bytealg.MakeNoZero"], named := ["internal/strconv.uint64pow10", "math/bits.deBruijn32tab", "math/bits.deBruijn64tab"], apart := false, laid := [("math/bits.deBruijn32tab", laid_math_bits_deBruijn32tab), ("math/bits.deBruijn64tab", laid_math_bits_deBruijn64tab), ("internal/strconv.uint64pow10", laid_internal_strconv_uint64pow10)], narrowed := true }
def ChanceClampsUptoSaid : Prop := chanceClampsUptoRow.holds Tryd.pinned (OpenSpec.upto chanceClampsSpec)

/-- 'bandolierlaw22.StatsAnd', WHERE WHAT IT READS IS OF BULK AT MOST 1048576: true; the input reads as it did. -/
def statsAndUptoRow : OpenClaim := { program := "ytdgphhpeebieaaadoor", sum := "8c5166a455fb7becd50b758b21d8b552f0fc5c49d2cb2ebb2cedecdb237579e3", func := "bandolier/bandolierlaw22.StatsAnd", spec := "statsAnd", inPlace := ["math.Float64frombits", "math.Float64bits", "internal/abi.NoEscape", "internal/bytealg.MakeNoZero"], named := ["internal/strconv.uint64pow10", "math/bits.deBruijn32tab", "math/bits.deBruijn64tab"], apart := false, laid := [("math/bits.deBruijn32tab", laid_math_bits_deBruijn32tab), ("math/bits.deBruijn64tab", laid_math_bits_deBruijn64tab), ("internal/strconv.uint64pow10", laid_internal_strconv_uint64pow10)], narrowed := true }
def StatsAndUptoSaid : Prop := statsAndUptoRow.holds Tryd.pinned (OpenSpec.upto statsAndSpec)

/-- 'bandolierlaw04.ChanceTexts', WHERE WHAT IT READS IS OF BULK AT MOST 1048576: true; the input reads as it did. -/
def chanceTextsUptoRow : OpenClaim := { program := "ytdgphhpeebieaaadoor", sum := "8c5166a455fb7becd50b758b21d8b552f0fc5c49d2cb2ebb2cedecdb237579e3", func := "bandolier/bandolierlaw04.ChanceTexts", spec := "chanceTexts", inPlace := ["math.Float64bits", "math.Float64frombits", "internal/abi.NoEscape", "internal/bytealg.MakeNoZero"], named := ["internal/strconv.uint64pow10", "math/bits.deBruijn32tab", "math/bits.deBruijn64tab", "strconv.ErrSyntax", "strconv.ErrRange"], apart := false, laid := [("math/bits.deBruijn32tab", laid_math_bits_deBruijn32tab), ("math/bits.deBruijn64tab", laid_math_bits_deBruijn64tab), ("internal/strconv.uint64pow10", laid_internal_strconv_uint64pow10), ("strconv.ErrRange", laid_strconv_ErrRange), ("strconv.ErrSyntax", laid_strconv_ErrSyntax)], narrowed := true }
def ChanceTextsUptoSaid : Prop := chanceTextsUptoRow.holds Tryd.pinned (OpenSpec.upto chanceTextsSpec)

/-- 'bandolierlaw22.StatsCounts', WHERE WHAT IT READS IS OF BULK AT MOST 1048576: true; the input reads as it did. -/
def statsCountsUptoRow : OpenClaim := { program := "ytdgphhpeebieaaadoor", sum := "8c5166a455fb7becd50b758b21d8b552f0fc5c49d2cb2ebb2cedecdb237579e3", func := "bandolier/bandolierlaw22.StatsCounts", spec := "statsCounts", inPlace := ["math.Float64frombits", "math.Float64bits", "internal/bytealg.CountString", "internal/bytealg.IndexByteString", "internal/bytealg.IndexString", "internal/abi.NoEscape", "internal/bytealg.MakeNoZero"], named := ["unicode/utf8.first", "unicode/utf8.acceptRanges", "internal/bytealg.MaxLen", "strconv.ErrSyntax", "strconv.ErrRange", "internal/strconv.uint64pow10", "math/bits.deBruijn32tab", "math/bits.deBruijn64tab"], apart := false, laid := [("math/bits.deBruijn32tab", laid_math_bits_deBruijn32tab), ("math/bits.deBruijn64tab", laid_math_bits_deBruijn64tab), ("internal/strconv.uint64pow10", laid_internal_strconv_uint64pow10), ("unicode/utf8.acceptRanges", laid_unicode_utf8_acceptRanges), ("strconv.ErrRange", laid_strconv_ErrRange), ("strconv.ErrSyntax", laid_strconv_ErrSyntax), ("unicode/utf8.first", laid_unicode_utf8_first)], narrowed := true }
def StatsCountsUptoSaid : Prop := statsCountsUptoRow.holds Tryd.pinned (OpenSpec.upto statsCountsSpec)

/-- 'bandolierlaw22.StatsTexts', WHERE WHAT IT READS IS OF BULK AT MOST 1048576: true; the input reads as it did. -/
def statsTextsUptoRow : OpenClaim := { program := "ytdgphhpeebieaaadoor", sum := "8c5166a455fb7becd50b758b21d8b552f0fc5c49d2cb2ebb2cedecdb237579e3", func := "bandolier/bandolierlaw22.StatsTexts", spec := "statsTexts", inPlace := ["internal/bytealg.CountString", "internal/bytealg.IndexByteString", "internal/bytealg.IndexString", "math.Float64frombits", "math.Float64bits", "internal/abi.NoEscape", "internal/bytealg.MakeNoZero"], named := ["unicode/utf8.first", "unicode/utf8.acceptRanges", "internal/bytealg.MaxLen", "strconv.ErrSyntax", "strconv.ErrRange", "internal/strconv.uint64pow10", "math/bits.deBruijn32tab", "math/bits.deBruijn64tab"], apart := false, laid := [("math/bits.deBruijn32tab", laid_math_bits_deBruijn32tab), ("math/bits.deBruijn64tab", laid_math_bits_deBruijn64tab), ("internal/strconv.uint64pow10", laid_internal_strconv_uint64pow10), ("unicode/utf8.acceptRanges", laid_unicode_utf8_acceptRanges), ("strconv.ErrRange", laid_strconv_ErrRange), ("strconv.ErrSyntax", laid_strconv_ErrSyntax), ("unicode/utf8.first", laid_unicode_utf8_first)], narrowed := true }
def StatsTextsUptoSaid : Prop := statsTextsUptoRow.holds Tryd.pinned (OpenSpec.upto statsTextsSpec)

end Rows
end Go.Proofs.YtdgphhpeebieaaaDoor
