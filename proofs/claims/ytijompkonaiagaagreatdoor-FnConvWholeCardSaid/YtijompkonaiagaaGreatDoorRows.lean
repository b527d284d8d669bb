/-
  NARROWER THAN 'FOR EVERY INPUT', by the rows' own cells (each row's printed sentence says how): FnConvWhole: laid · FnExactMapTextIn: laid · FnExactMapTextOut: laid · FnOutAgain: laid · FnOutTwice: laid · FnTextIn: laid · FnTextHides: laid · FnInMore: laid · FnTextStep: laid · FnOutLong: laid · FnTextThere: laid.
  DERIVED. THE GIVEN ROWS OF THIS SEAT. 11 by the template 'for every input the law returns true; each argument reads behind the call as it read before'; 0 by the template 'total and deterministic' (their statements: YtijompkonaiagaaGreatDoorTotals.lean).
  GIVEN WITH THE SEED: the statements are not yours to turn. If you find one false, say at which input.
  Laid BY PROGRAM, IN A SANDBOX (cutbox-rows.mjs): the forced cells as the released guide's own fill.sh prints them over the translation fefd4f3205e8c0a2… (all of the seat's roots in one cut). By AI agents, Wed Nov 11 2026. No macro, syntax, notation, axiom, sorry.
-/
import Derived.Test.YtijompkonaiagaaGreatDoorChecked
import GoSem.Claim
import GoSem.ClaimJoined
import GoSem.ClaimMapViews
import Derived.JoinedTies
import Derived.KernelRfl
namespace Go.Proofs.YtijompkonaiagaaGreatDoor
/- THE CELL 'sum', in the pinned program and in every row, IS THE sha256 OF THE DUMP (.gsa) THAT YtijompkonaiagaaGreatDoorProg.lean LOADS. Nothing in Lean hashes anything: it is a label: what it is worth is what the hold of that sum in a sandbox is worth. -/
noncomputable def Tryz.pinned : Pinned := { name := "ytijompkonaiagaagreatdoor", sum := "fefd4f3205e8c0a263a729ebec6be580afac84a7a3dc0c66885d7103a224203c", checked := Tryz.checked }
namespace Rows
def none {H : Type} : Left H := { results := [], args := [] }

/- WHAT THE LISTED PACKAGE-LEVEL VARIABLES READ AS WHEN THE CALL BEGINS. Each datum BY PROGRAM (the guide's laid-datum.mjs) off the statement by which the dump's own 'gosem.cut.vars' lays the variable. In a bare row this is a premise. The card (YtijompkonaiagaaGreatDoorCards.lean) ties it to the program's text. -/
def laid_math_bits_deBruijn32tab {H : Type} : DataW H := .agg [.lit (.int .u8 0), .lit (.int .u8 1), .lit (.int .u8 28), .lit (.int .u8 2), .lit (.int .u8 29), .lit (.int .u8 14), .lit (.int .u8 24), .lit (.int .u8 3), .lit (.int .u8 30), .lit (.int .u8 22), .lit (.int .u8 20), .lit (.int .u8 15), .lit (.int .u8 25), .lit (.int .u8 17), .lit (.int .u8 4), .lit (.int .u8 8), .lit (.int .u8 31), .lit (.int .u8 27), .lit (.int .u8 13), .lit (.int .u8 23), .lit (.int .u8 21), .lit (.int .u8 19), .lit (.int .u8 16), .lit (.int .u8 7), .lit (.int .u8 26), .lit (.int .u8 12), .lit (.int .u8 18), .lit (.int .u8 6), .lit (.int .u8 11), .lit (.int .u8 5), .lit (.int .u8 10), .lit (.int .u8 9)]
def laid_math_bits_deBruijn64tab {H : Type} : DataW H := .agg [.lit (.int .u8 0), .lit (.int .u8 1), .lit (.int .u8 56), .lit (.int .u8 2), .lit (.int .u8 57), .lit (.int .u8 49), .lit (.int .u8 28), .lit (.int .u8 3), .lit (.int .u8 61), .lit (.int .u8 58), .lit (.int .u8 42), .lit (.int .u8 50), .lit (.int .u8 38), .lit (.int .u8 29), .lit (.int .u8 17), .lit (.int .u8 4), .lit (.int .u8 62), .lit (.int .u8 47), .lit (.int .u8 59), .lit (.int .u8 36), .lit (.int .u8 45), .lit (.int .u8 43), .lit (.int .u8 51), .lit (.int .u8 22), .lit (.int .u8 53), .lit (.int .u8 39), .lit (.int .u8 33), .lit (.int .u8 30), .lit (.int .u8 24), .lit (.int .u8 18), .lit (.int .u8 12), .lit (.int .u8 5), .lit (.int .u8 63), .lit (.int .u8 55), .lit (.int .u8 48), .lit (.int .u8 27), .lit (.int .u8 60), .lit (.int .u8 41), .lit (.int .u8 37), .lit (.int .u8 16), .lit (.int .u8 46), .lit (.int .u8 35), .lit (.int .u8 44), .lit (.int .u8 21), .lit (.int .u8 52), .lit (.int .u8 32), .lit (.int .u8 23), .lit (.int .u8 11), .lit (.int .u8 54), .lit (.int .u8 26), .lit (.int .u8 40), .lit (.int .u8 15), .lit (.int .u8 34), .lit (.int .u8 20), .lit (.int .u8 31), .lit (.int .u8 10), .lit (.int .u8 25), .lit (.int .u8 14), .lit (.int .u8 19), .lit (.int .u8 9), .lit (.int .u8 13), .lit (.int .u8 8), .lit (.int .u8 7), .lit (.int .u8 6)]
def laid_internal_strconv_uint64pow10 {H : Type} : DataW H := .agg [.lit (.int .u64 1), .lit (.int .u64 10), .lit (.int .u64 100), .lit (.int .u64 1000), .lit (.int .u64 10000), .lit (.int .u64 100000), .lit (.int .u64 1000000), .lit (.int .u64 10000000), .lit (.int .u64 100000000), .lit (.int .u64 1000000000), .lit (.int .u64 10000000000), .lit (.int .u64 100000000000), .lit (.int .u64 1000000000000), .lit (.int .u64 10000000000000), .lit (.int .u64 100000000000000), .lit (.int .u64 1000000000000000), .lit (.int .u64 10000000000000000), .lit (.int .u64 100000000000000000), .lit (.int .u64 1000000000000000000), .lit (.int .u64 10000000000000000000)]
def laid_strconv_ErrRange {H : Type} : DataW H := .iface "*errors.errorString" (.ptr (.agg [.lit (.string [118, 97, 108, 117, 101, 32, 111, 117, 116, 32, 111, 102, 32, 114, 97, 110, 103, 101])]))
def laid_strconv_ErrSyntax {H : Type} : DataW H := .iface "*errors.errorString" (.ptr (.agg [.lit (.string [105, 110, 118, 97, 108, 105, 100, 32, 115, 121, 110, 116, 97, 120])]))

/-- 'laws.FnConvWhole': WHATEVER THE INPUT: true; the input reads as it did. -/
def fnConvWholeSpec : ChangeSpec := { name := "fnConvWhole", fn := fun _ => fun
  | [d] => { results := [.lit (.bool true)], args := [d] }
  | _ => none }
def fnConvWholeRow : OpenClaim := { program := "ytijompkonaiagaagreatdoor", sum := "fefd4f3205e8c0a263a729ebec6be580afac84a7a3dc0c66885d7103a224203c", func := "loop.example/ostiary/laws.FnConvWhole", spec := "fnConvWhole", inPlace := ["internal/bytealg.IndexByteString", "internal/bytealg.IndexString"], unfollowed := true, recurses := true, named := ["internal/bytealg.MaxLen", "strconv.ErrSyntax", "strconv.ErrRange", "internal/strconv.uint64pow10", "math/bits.deBruijn32tab", "math/bits.deBruijn64tab"], apart := false, laid := [("math/bits.deBruijn32tab", laid_math_bits_deBruijn32tab), ("math/bits.deBruijn64tab", laid_math_bits_deBruijn64tab), ("internal/strconv.uint64pow10", laid_internal_strconv_uint64pow10), ("strconv.ErrRange", laid_strconv_ErrRange), ("strconv.ErrSyntax", laid_strconv_ErrSyntax)] }
def FnConvWholeSaid : Prop := fnConvWholeRow.holds Tryz.pinned (OpenSpec.ofChange fnConvWholeSpec)

/-- ITS FALSE NEIGHBOUR: 'it returns false'. Refute it at one input. -/
def fnConvWholeWrong : ChangeSpec := { name := "fnConvWhole", fn := fun _ => fun
  | [d] => { results := [.lit (.bool false)], args := [d] }
  | _ => none }
def FnConvWholeWrongFalsely : Prop := fnConvWholeRow.holds Tryz.pinned (OpenSpec.ofChange fnConvWholeWrong)

/-- 'laws.FnExactMapTextIn': WHATEVER THE INPUT: true; the input reads as it did. -/
def fnExactMapTextInSpec : ChangeSpec := { name := "fnExactMapTextIn", fn := fun _ => fun
  | [d1, d2] => { results := [.lit (.bool true)], args := [d1, d2] }
  | _ => none }
def fnExactMapTextInRow : OpenClaim := { program := "ytijompkonaiagaagreatdoor", sum := "fefd4f3205e8c0a263a729ebec6be580afac84a7a3dc0c66885d7103a224203c", func := "loop.example/ostiary/laws.FnExactMapTextIn", spec := "fnExactMapTextIn", inPlace := ["internal/bytealg.IndexByteString", "internal/bytealg.IndexString", "internal/abi.NoEscape", "internal/bytealg.MakeNoZero"], recurses := true, named := ["internal/bytealg.MaxLen", "strconv.ErrSyntax", "strconv.ErrRange", "internal/strconv.uint64pow10", "math/bits.deBruijn32tab", "math/bits.deBruijn64tab"], apart := false, laid := [("math/bits.deBruijn32tab", laid_math_bits_deBruijn32tab), ("math/bits.deBruijn64tab", laid_math_bits_deBruijn64tab), ("internal/strconv.uint64pow10", laid_internal_strconv_uint64pow10), ("strconv.ErrRange", laid_strconv_ErrRange), ("strconv.ErrSyntax", laid_strconv_ErrSyntax)] }
def FnExactMapTextInSaid : Prop := fnExactMapTextInRow.holds Tryz.pinned (OpenSpec.ofChange fnExactMapTextInSpec)

/-- ITS FALSE NEIGHBOUR: 'it returns false'. Refute it at one input. -/
def fnExactMapTextInWrong : ChangeSpec := { name := "fnExactMapTextIn", fn := fun _ => fun
  | [d1, d2] => { results := [.lit (.bool false)], args := [d1, d2] }
  | _ => none }
def FnExactMapTextInWrongFalsely : Prop := fnExactMapTextInRow.holds Tryz.pinned (OpenSpec.ofChange fnExactMapTextInWrong)

/-- 'laws.FnExactMapTextOut': WHATEVER THE INPUT: true; the input reads as it did. -/
def fnExactMapTextOutSpec : ChangeSpec := { name := "fnExactMapTextOut", fn := fun _ => fun
  | [d1, d2] => { results := [.lit (.bool true)], args := [d1, d2] }
  | _ => none }
def fnExactMapTextOutRow : OpenClaim := { program := "ytijompkonaiagaagreatdoor", sum := "fefd4f3205e8c0a263a729ebec6be580afac84a7a3dc0c66885d7103a224203c", func := "loop.example/ostiary/laws.FnExactMapTextOut", spec := "fnExactMapTextOut", inPlace := ["internal/bytealg.IndexByteString", "internal/bytealg.IndexString", "internal/abi.NoEscape", "internal/bytealg.MakeNoZero"], recurses := true, named := ["internal/bytealg.MaxLen", "strconv.ErrSyntax", "strconv.ErrRange", "internal/strconv.uint64pow10", "math/bits.deBruijn32tab", "math/bits.deBruijn64tab"], apart := false, laid := [("math/bits.deBruijn32tab", laid_math_bits_deBruijn32tab), ("math/bits.deBruijn64tab", laid_math_bits_deBruijn64tab), ("internal/strconv.uint64pow10", laid_internal_strconv_uint64pow10), ("strconv.ErrRange", laid_strconv_ErrRange), ("strconv.ErrSyntax", laid_strconv_ErrSyntax)] }
def FnExactMapTextOutSaid : Prop := fnExactMapTextOutRow.holds Tryz.pinned (OpenSpec.ofChange fnExactMapTextOutSpec)

/-- ITS FALSE NEIGHBOUR: 'it returns false'. Refute it at one input. -/
def fnExactMapTextOutWrong : ChangeSpec := { name := "fnExactMapTextOut", fn := fun _ => fun
  | [d1, d2] => { results := [.lit (.bool false)], args := [d1, d2] }
  | _ => none }
def FnExactMapTextOutWrongFalsely : Prop := fnExactMapTextOutRow.holds Tryz.pinned (OpenSpec.ofChange fnExactMapTextOutWrong)

/-- 'laws.FnOutAgain': WHATEVER THE INPUT: true; the input reads as it did. -/
def fnOutAgainSpec : ChangeSpec := { name := "fnOutAgain", fn := fun _ => fun
  | [d] => { results := [.lit (.bool true)], args := [d] }
  | _ => none }
def fnOutAgainRow : OpenClaim := { program := "ytijompkonaiagaagreatdoor", sum := "fefd4f3205e8c0a263a729ebec6be580afac84a7a3dc0c66885d7103a224203c", func := "loop.example/ostiary/laws.FnOutAgain", spec := "fnOutAgain", inPlace := ["internal/bytealg.IndexByteString", "internal/bytealg.IndexString", "internal/abi.NoEscape", "internal/bytealg.MakeNoZero"], recurses := true, named := ["internal/bytealg.MaxLen", "strconv.ErrSyntax", "strconv.ErrRange", "internal/strconv.uint64pow10", "math/bits.deBruijn32tab", "math/bits.deBruijn64tab"], apart := false, laid := [("math/bits.deBruijn32tab", laid_math_bits_deBruijn32tab), ("math/bits.deBruijn64tab", laid_math_bits_deBruijn64tab), ("internal/strconv.uint64pow10", laid_internal_strconv_uint64pow10), ("strconv.ErrRange", laid_strconv_ErrRange), ("strconv.ErrSyntax", laid_strconv_ErrSyntax)] }
def FnOutAgainSaid : Prop := fnOutAgainRow.holds Tryz.pinned (OpenSpec.ofChange fnOutAgainSpec)

/-- ITS FALSE NEIGHBOUR: 'it returns false'. Refute it at one input. -/
def fnOutAgainWrong : ChangeSpec := { name := "fnOutAgain", fn := fun _ => fun
  | [d] => { results := [.lit (.bool false)], args := [d] }
  | _ => none }
def FnOutAgainWrongFalsely : Prop := fnOutAgainRow.holds Tryz.pinned (OpenSpec.ofChange fnOutAgainWrong)

/-- 'laws.FnOutTwice': WHATEVER THE INPUT: true; the input reads as it did. -/
def fnOutTwiceSpec : ChangeSpec := { name := "fnOutTwice", fn := fun _ => fun
  | [d] => { results := [.lit (.bool true)], args := [d] }
  | _ => none }
def fnOutTwiceRow : OpenClaim := { program := "ytijompkonaiagaagreatdoor", sum := "fefd4f3205e8c0a263a729ebec6be580afac84a7a3dc0c66885d7103a224203c", func := "loop.example/ostiary/laws.FnOutTwice", spec := "fnOutTwice", inPlace := ["internal/bytealg.IndexByteString", "internal/bytealg.IndexString", "internal/abi.NoEscape", "internal/bytealg.MakeNoZero"], recurses := true, named := ["internal/bytealg.MaxLen", "strconv.ErrSyntax", "strconv.ErrRange", "internal/strconv.uint64pow10", "math/bits.deBruijn32tab", "math/bits.deBruijn64tab"], apart := false, laid := [("math/bits.deBruijn32tab", laid_math_bits_deBruijn32tab), ("math/bits.deBruijn64tab", laid_math_bits_deBruijn64tab), ("internal/strconv.uint64pow10", laid_internal_strconv_uint64pow10), ("strconv.ErrRange", laid_strconv_ErrRange), ("strconv.ErrSyntax", laid_strconv_ErrSyntax)] }
def FnOutTwiceSaid : Prop := fnOutTwiceRow.holds Tryz.pinned (OpenSpec.ofChange fnOutTwiceSpec)

/-- ITS FALSE NEIGHBOUR: 'it returns false'. Refute it at one input. -/
def fnOutTwiceWrong : ChangeSpec := { name := "fnOutTwice", fn := fun _ => fun
  | [d] => { results := [.lit (.bool false)], args := [d] }
  | _ => none }
def FnOutTwiceWrongFalsely : Prop := fnOutTwiceRow.holds Tryz.pinned (OpenSpec.ofChange fnOutTwiceWrong)

/-- 'laws.FnTextIn': WHATEVER THE INPUT: true; the input reads as it did. -/
def fnTextInSpec : ChangeSpec := { name := "fnTextIn", fn := fun _ => fun
  | [d] => { results := [.lit (.bool true)], args := [d] }
  | _ => none }
def fnTextInRow : OpenClaim := { program := "ytijompkonaiagaagreatdoor", sum := "fefd4f3205e8c0a263a729ebec6be580afac84a7a3dc0c66885d7103a224203c", func := "loop.example/ostiary/laws.FnTextIn", spec := "fnTextIn", inPlace := ["internal/bytealg.IndexByteString", "internal/bytealg.IndexString", "internal/abi.NoEscape", "internal/bytealg.MakeNoZero"], recurses := true, named := ["internal/bytealg.MaxLen", "strconv.ErrSyntax", "strconv.ErrRange", "internal/strconv.uint64pow10", "math/bits.deBruijn32tab", "math/bits.deBruijn64tab"], apart := false, laid := [("math/bits.deBruijn32tab", laid_math_bits_deBruijn32tab), ("math/bits.deBruijn64tab", laid_math_bits_deBruijn64tab), ("internal/strconv.uint64pow10", laid_internal_strconv_uint64pow10), ("strconv.ErrRange", laid_strconv_ErrRange), ("strconv.ErrSyntax", laid_strconv_ErrSyntax)] }
def FnTextInSaid : Prop := fnTextInRow.holds Tryz.pinned (OpenSpec.ofChange fnTextInSpec)

/-- ITS FALSE NEIGHBOUR: 'it returns false'. Refute it at one input. -/
def fnTextInWrong : ChangeSpec := { name := "fnTextIn", fn := fun _ => fun
  | [d] => { results := [.lit (.bool false)], args := [d] }
  | _ => none }
def FnTextInWrongFalsely : Prop := fnTextInRow.holds Tryz.pinned (OpenSpec.ofChange fnTextInWrong)

/-- 'laws.FnTextHides': WHATEVER THE INPUT: true; the input reads as it did. -/
def fnTextHidesSpec : ChangeSpec := { name := "fnTextHides", fn := fun _ => fun
  | [d] => { results := [.lit (.bool true)], args := [d] }
  | _ => none }
def fnTextHidesRow : OpenClaim := { program := "ytijompkonaiagaagreatdoor", sum := "fefd4f3205e8c0a263a729ebec6be580afac84a7a3dc0c66885d7103a224203c", func := "loop.example/ostiary/laws.FnTextHides", spec := "fnTextHides", inPlace := ["internal/bytealg.IndexByteString", "internal/bytealg.IndexString", "internal/abi.NoEscape", "internal/bytealg.MakeNoZero"], recurses := true, named := ["internal/bytealg.MaxLen", "strconv.ErrSyntax", "strconv.ErrRange", "internal/strconv.uint64pow10", "math/bits.deBruijn32tab", "math/bits.deBruijn64tab"], apart := false, laid := [("math/bits.deBruijn32tab", laid_math_bits_deBruijn32tab), ("math/bits.deBruijn64tab", laid_math_bits_deBruijn64tab), ("internal/strconv.uint64pow10", laid_internal_strconv_uint64pow10), ("strconv.ErrRange", laid_strconv_ErrRange), ("strconv.ErrSyntax", laid_strconv_ErrSyntax)] }
def FnTextHidesSaid : Prop := fnTextHidesRow.holds Tryz.pinned (OpenSpec.ofChange fnTextHidesSpec)

/-- ITS FALSE NEIGHBOUR: 'it returns false'. Refute it at one input. -/
def fnTextHidesWrong : ChangeSpec := { name := "fnTextHides", fn := fun _ => fun
  | [d] => { results := [.lit (.bool false)], args := [d] }
  | _ => none }
def FnTextHidesWrongFalsely : Prop := fnTextHidesRow.holds Tryz.pinned (OpenSpec.ofChange fnTextHidesWrong)

/-- 'laws.FnInMore': WHATEVER THE INPUT: true; the input reads as it did. -/
def fnInMoreSpec : ChangeSpec := { name := "fnInMore", fn := fun _ => fun
  | [d1, d2] => { results := [.lit (.bool true)], args := [d1, d2] }
  | _ => none }
def fnInMoreRow : OpenClaim := { program := "ytijompkonaiagaagreatdoor", sum := "fefd4f3205e8c0a263a729ebec6be580afac84a7a3dc0c66885d7103a224203c", func := "loop.example/ostiary/laws.FnInMore", spec := "fnInMore", inPlace := ["internal/bytealg.IndexByteString", "internal/bytealg.IndexString", "internal/abi.NoEscape", "internal/bytealg.MakeNoZero"], recurses := true, named := ["internal/bytealg.MaxLen", "strconv.ErrSyntax", "strconv.ErrRange", "internal/strconv.uint64pow10", "math/bits.deBruijn32tab", "math/bits.deBruijn64tab"], apart := false, laid := [("math/bits.deBruijn32tab", laid_math_bits_deBruijn32tab), ("math/bits.deBruijn64tab", laid_math_bits_deBruijn64tab), ("internal/strconv.uint64pow10", laid_internal_strconv_uint64pow10), ("strconv.ErrRange", laid_strconv_ErrRange), ("strconv.ErrSyntax", laid_strconv_ErrSyntax)] }
def FnInMoreSaid : Prop := fnInMoreRow.holds Tryz.pinned (OpenSpec.ofChange fnInMoreSpec)

/-- ITS FALSE NEIGHBOUR: 'it returns false'. Refute it at one input. -/
def fnInMoreWrong : ChangeSpec := { name := "fnInMore", fn := fun _ => fun
  | [d1, d2] => { results := [.lit (.bool false)], args := [d1, d2] }
  | _ => none }
def FnInMoreWrongFalsely : Prop := fnInMoreRow.holds Tryz.pinned (OpenSpec.ofChange fnInMoreWrong)

/-- 'laws.FnTextStep': WHATEVER THE INPUT: true; the input reads as it did. -/
def fnTextStepSpec : ChangeSpec := { name := "fnTextStep", fn := fun _ => fun
  | [d1, d2] => { results := [.lit (.bool true)], args := [d1, d2] }
  | _ => none }
def fnTextStepRow : OpenClaim := { program := "ytijompkonaiagaagreatdoor", sum := "fefd4f3205e8c0a263a729ebec6be580afac84a7a3dc0c66885d7103a224203c", func := "loop.example/ostiary/laws.FnTextStep", spec := "fnTextStep", inPlace := ["internal/bytealg.IndexByteString", "internal/bytealg.IndexString", "internal/abi.NoEscape", "internal/bytealg.MakeNoZero"], recurses := true, named := ["internal/bytealg.MaxLen", "strconv.ErrSyntax", "strconv.ErrRange", "internal/strconv.uint64pow10", "math/bits.deBruijn32tab", "math/bits.deBruijn64tab"], apart := false, laid := [("math/bits.deBruijn32tab", laid_math_bits_deBruijn32tab), ("math/bits.deBruijn64tab", laid_math_bits_deBruijn64tab), ("internal/strconv.uint64pow10", laid_internal_strconv_uint64pow10), ("strconv.ErrRange", laid_strconv_ErrRange), ("strconv.ErrSyntax", laid_strconv_ErrSyntax)] }
def FnTextStepSaid : Prop := fnTextStepRow.holds Tryz.pinned (OpenSpec.ofChange fnTextStepSpec)

/-- ITS FALSE NEIGHBOUR: 'it returns false'. Refute it at one input. -/
def fnTextStepWrong : ChangeSpec := { name := "fnTextStep", fn := fun _ => fun
  | [d1, d2] => { results := [.lit (.bool false)], args := [d1, d2] }
  | _ => none }
def FnTextStepWrongFalsely : Prop := fnTextStepRow.holds Tryz.pinned (OpenSpec.ofChange fnTextStepWrong)

/-- 'laws.FnOutLong': WHATEVER THE INPUT: true; the input reads as it did. -/
def fnOutLongSpec : ChangeSpec := { name := "fnOutLong", fn := fun _ => fun
  | [d] => { results := [.lit (.bool true)], args := [d] }
  | _ => none }
def fnOutLongRow : OpenClaim := { program := "ytijompkonaiagaagreatdoor", sum := "fefd4f3205e8c0a263a729ebec6be580afac84a7a3dc0c66885d7103a224203c", func := "loop.example/ostiary/laws.FnOutLong", spec := "fnOutLong", inPlace := ["internal/bytealg.IndexByteString", "internal/bytealg.IndexString", "internal/abi.NoEscape", "internal/bytealg.MakeNoZero"], recurses := true, named := ["internal/bytealg.MaxLen", "strconv.ErrSyntax", "strconv.ErrRange", "internal/strconv.uint64pow10", "math/bits.deBruijn32tab", "math/bits.deBruijn64tab"], apart := false, laid := [("math/bits.deBruijn32tab", laid_math_bits_deBruijn32tab), ("math/bits.deBruijn64tab", laid_math_bits_deBruijn64tab), ("internal/strconv.uint64pow10", laid_internal_strconv_uint64pow10), ("strconv.ErrRange", laid_strconv_ErrRange), ("strconv.ErrSyntax", laid_strconv_ErrSyntax)] }
def FnOutLongSaid : Prop := fnOutLongRow.holds Tryz.pinned (OpenSpec.ofChange fnOutLongSpec)

/-- ITS FALSE NEIGHBOUR: 'it returns false'. Refute it at one input. -/
def fnOutLongWrong : ChangeSpec := { name := "fnOutLong", fn := fun _ => fun
  | [d] => { results := [.lit (.bool false)], args := [d] }
  | _ => none }
def FnOutLongWrongFalsely : Prop := fnOutLongRow.holds Tryz.pinned (OpenSpec.ofChange fnOutLongWrong)

/-- 'laws.FnTextThere': WHATEVER THE INPUT: true; the input reads as it did. -/
def fnTextThereSpec : ChangeSpec := { name := "fnTextThere", fn := fun _ => fun
  | [d] => { results := [.lit (.bool true)], args := [d] }
  | _ => none }
def fnTextThereRow : OpenClaim := { program := "ytijompkonaiagaagreatdoor", sum := "fefd4f3205e8c0a263a729ebec6be580afac84a7a3dc0c66885d7103a224203c", func := "loop.example/ostiary/laws.FnTextThere", spec := "fnTextThere", inPlace := ["internal/bytealg.IndexByteString", "internal/bytealg.IndexString", "internal/abi.NoEscape", "internal/bytealg.MakeNoZero"], recurses := true, named := ["internal/bytealg.MaxLen", "strconv.ErrSyntax", "strconv.ErrRange", "internal/strconv.uint64pow10", "math/bits.deBruijn32tab", "math/bits.deBruijn64tab"], apart := false, laid := [("math/bits.deBruijn32tab", laid_math_bits_deBruijn32tab), ("math/bits.deBruijn64tab", laid_math_bits_deBruijn64tab), ("internal/strconv.uint64pow10", laid_internal_strconv_uint64pow10), ("strconv.ErrRange", laid_strconv_ErrRange), ("strconv.ErrSyntax", laid_strconv_ErrSyntax)] }
def FnTextThereSaid : Prop := fnTextThereRow.holds Tryz.pinned (OpenSpec.ofChange fnTextThereSpec)

/-- ITS FALSE NEIGHBOUR: 'it returns false'. Refute it at one input. -/
def fnTextThereWrong : ChangeSpec := { name := "fnTextThere", fn := fun _ => fun
  | [d] => { results := [.lit (.bool false)], args := [d] }
  | _ => none }
def FnTextThereWrongFalsely : Prop := fnTextThereRow.holds Tryz.pinned (OpenSpec.ofChange fnTextThereWrong)

/- THE SECOND FORM. 'bulk': how many values and letters a reading holds, each counted each time it is reached (what is shared counts as often as it is met; a slice's spare places count too). A statement '..UptoSaid' is the law's where the arguments, and the package variables that the reading takes, are together of bulk at most 1048576: NARROWER than '..Said'. Prove '..Said' where nothing that the law and all that it calls make is longer than what came in: it says more and counts as full. Else prove '..UptoSaid'. A law counts once. -/
mutual
def uptoBulk {H : Type} : DataW H → Nat
  | .lit (.string bytes) => bytes.length + 1
  | .lit _ => 1
  | .nil => 1
  | .ptr d => uptoBulk d + 1
  | .slice elems spare => uptoBulkAll elems + uptoBulkAll spare + 1
  | .agg parts => uptoBulkAll parts + 1
  | .iface _ d => uptoBulk d + 1
  | .map entries => uptoBulkEntries entries + 1
  | .held _ => 1
def uptoBulkAll {H : Type} : List (DataW H) → Nat
  | [] => 0
  | d :: r => uptoBulk d + uptoBulkAll r
def uptoBulkEntries {H : Type} : List (Lit × DataW H) → Nat
  | [] => 0
  | x :: r => uptoBulkEntry x + uptoBulkEntries r
def uptoBulkEntry {H : Type} : Lit × DataW H → Nat
  | (.string bytes, d) => bytes.length + uptoBulk d + 1
  | (_, d) => uptoBulk d + 1
 end
def uptoSmall : (H : Type) → List (DataW H) → Bool := fun _ ds => decide (uptoBulkAll ds ≤ 1048576)
def OpenSpec.upto (s : _root_.Go.ChangeSpec) : _root_.Go.OpenSpec := { _root_.Go.OpenSpec.ofChange s with cond := some uptoSmall }

/-- 'laws.FnConvWhole', WHERE WHAT IT READS IS OF BULK AT MOST 1048576: true; the input reads as it did. -/
def fnConvWholeUptoRow : OpenClaim := { program := "ytijompkonaiagaagreatdoor", sum := "fefd4f3205e8c0a263a729ebec6be580afac84a7a3dc0c66885d7103a224203c", func := "loop.example/ostiary/laws.FnConvWhole", spec := "fnConvWhole", inPlace := ["internal/bytealg.IndexByteString", "internal/bytealg.IndexString"], unfollowed := true, recurses := true, named := ["internal/bytealg.MaxLen", "strconv.ErrSyntax", "strconv.ErrRange", "internal/strconv.uint64pow10", "math/bits.deBruijn32tab", "math/bits.deBruijn64tab"], apart := false, laid := [("math/bits.deBruijn32tab", laid_math_bits_deBruijn32tab), ("math/bits.deBruijn64tab", laid_math_bits_deBruijn64tab), ("internal/strconv.uint64pow10", laid_internal_strconv_uint64pow10), ("strconv.ErrRange", laid_strconv_ErrRange), ("strconv.ErrSyntax", laid_strconv_ErrSyntax)], narrowed := true }
def FnConvWholeUptoSaid : Prop := fnConvWholeUptoRow.holds Tryz.pinned (OpenSpec.upto fnConvWholeSpec)

/-- 'laws.FnExactMapTextIn', WHERE WHAT IT READS IS OF BULK AT MOST 1048576: true; the input reads as it did. -/
def fnExactMapTextInUptoRow : OpenClaim := { program := "ytijompkonaiagaagreatdoor", sum := "fefd4f3205e8c0a263a729ebec6be580afac84a7a3dc0c66885d7103a224203c", func := "loop.example/ostiary/laws.FnExactMapTextIn", spec := "fnExactMapTextIn", inPlace := ["internal/bytealg.IndexByteString", "internal/bytealg.IndexString", "internal/abi.NoEscape", "internal/bytealg.MakeNoZero"], recurses := true, named := ["internal/bytealg.MaxLen", "strconv.ErrSyntax", "strconv.ErrRange", "internal/strconv.uint64pow10", "math/bits.deBruijn32tab", "math/bits.deBruijn64tab"], apart := false, laid := [("math/bits.deBruijn32tab", laid_math_bits_deBruijn32tab), ("math/bits.deBruijn64tab", laid_math_bits_deBruijn64tab), ("internal/strconv.uint64pow10", laid_internal_strconv_uint64pow10), ("strconv.ErrRange", laid_strconv_ErrRange), ("strconv.ErrSyntax", laid_strconv_ErrSyntax)], narrowed := true }
def FnExactMapTextInUptoSaid : Prop := fnExactMapTextInUptoRow.holds Tryz.pinned (OpenSpec.upto fnExactMapTextInSpec)

/-- 'laws.FnExactMapTextOut', WHERE WHAT IT READS IS OF BULK AT MOST 1048576: true; the input reads as it did. -/
def fnExactMapTextOutUptoRow : OpenClaim := { program := "ytijompkonaiagaagreatdoor", sum := "fefd4f3205e8c0a263a729ebec6be580afac84a7a3dc0c66885d7103a224203c", func := "loop.example/ostiary/laws.FnExactMapTextOut", spec := "fnExactMapTextOut", inPlace := ["internal/bytealg.IndexByteString", "internal/bytealg.IndexString", "internal/abi.NoEscape", "internal/bytealg.MakeNoZero"], recurses := true, named := ["internal/bytealg.MaxLen", "strconv.ErrSyntax", "strconv.ErrRange", "internal/strconv.uint64pow10", "math/bits.deBruijn32tab", "math/bits.deBruijn64tab"], apart := false, laid := [("math/bits.deBruijn32tab", laid_math_bits_deBruijn32tab), ("math/bits.deBruijn64tab", laid_math_bits_deBruijn64tab), ("internal/strconv.uint64pow10", laid_internal_strconv_uint64pow10), ("strconv.ErrRange", laid_strconv_ErrRange), ("strconv.ErrSyntax", laid_strconv_ErrSyntax)], narrowed := true }
def FnExactMapTextOutUptoSaid : Prop := fnExactMapTextOutUptoRow.holds Tryz.pinned (OpenSpec.upto fnExactMapTextOutSpec)

/-- 'laws.FnOutAgain', WHERE WHAT IT READS IS OF BULK AT MOST 1048576: true; the input reads as it did. -/
def fnOutAgainUptoRow : OpenClaim := { program := "ytijompkonaiagaagreatdoor", sum := "fefd4f3205e8c0a263a729ebec6be580afac84a7a3dc0c66885d7103a224203c", func := "loop.example/ostiary/laws.FnOutAgain", spec := "fnOutAgain", inPlace := ["internal/bytealg.IndexByteString", "internal/bytealg.IndexString", "internal/abi.NoEscape", "internal/bytealg.MakeNoZero"], recurses := true, named := ["internal/bytealg.MaxLen", "strconv.ErrSyntax", "strconv.ErrRange", "internal/strconv.uint64pow10", "math/bits.deBruijn32tab", "math/bits.deBruijn64tab"], apart := false, laid := [("math/bits.deBruijn32tab", laid_math_bits_deBruijn32tab), ("math/bits.deBruijn64tab", laid_math_bits_deBruijn64tab), ("internal/strconv.uint64pow10", laid_internal_strconv_uint64pow10), ("strconv.ErrRange", laid_strconv_ErrRange), ("strconv.ErrSyntax", laid_strconv_ErrSyntax)], narrowed := true }
def FnOutAgainUptoSaid : Prop := fnOutAgainUptoRow.holds Tryz.pinned (OpenSpec.upto fnOutAgainSpec)

/-- 'laws.FnOutTwice', WHERE WHAT IT READS IS OF BULK AT MOST 1048576: true; the input reads as it did. -/
def fnOutTwiceUptoRow : OpenClaim := { program := "ytijompkonaiagaagreatdoor", sum := "fefd4f3205e8c0a263a729ebec6be580afac84a7a3dc0c66885d7103a224203c", func := "loop.example/ostiary/laws.FnOutTwice", spec := "fnOutTwice", inPlace := ["internal/bytealg.IndexByteString", "internal/bytealg.IndexString", "internal/abi.NoEscape", "internal/bytealg.MakeNoZero"], recurses := true, named := ["internal/bytealg.MaxLen", "strconv.ErrSyntax", "strconv.ErrRange", "internal/strconv.uint64pow10", "math/bits.deBruijn32tab", "math/bits.deBruijn64tab"], apart := false, laid := [("math/bits.deBruijn32tab", laid_math_bits_deBruijn32tab), ("math/bits.deBruijn64tab", laid_math_bits_deBruijn64tab), ("internal/strconv.uint64pow10", laid_internal_strconv_uint64pow10), ("strconv.ErrRange", laid_strconv_ErrRange), ("strconv.ErrSyntax", laid_strconv_ErrSyntax)], narrowed := true }
def FnOutTwiceUptoSaid : Prop := fnOutTwiceUptoRow.holds Tryz.pinned (OpenSpec.upto fnOutTwiceSpec)

/-- 'laws.FnTextIn', WHERE WHAT IT READS IS OF BULK AT MOST 1048576: true; the input reads as it did. -/
def fnTextInUptoRow : OpenClaim := { program := "ytijompkonaiagaagreatdoor", sum := "fefd4f3205e8c0a263a729ebec6be580afac84a7a3dc0c66885d7103a224203c", func := "loop.example/ostiary/laws.FnTextIn", spec := "fnTextIn", inPlace := ["internal/bytealg.IndexByteString", "internal/bytealg.IndexString", "internal/abi.NoEscape", "internal/bytealg.MakeNoZero"], recurses := true, named := ["internal/bytealg.MaxLen", "strconv.ErrSyntax", "strconv.ErrRange", "internal/strconv.uint64pow10", "math/bits.deBruijn32tab", "math/bits.deBruijn64tab"], apart := false, laid := [("math/bits.deBruijn32tab", laid_math_bits_deBruijn32tab), ("math/bits.deBruijn64tab", laid_math_bits_deBruijn64tab), ("internal/strconv.uint64pow10", laid_internal_strconv_uint64pow10), ("strconv.ErrRange", laid_strconv_ErrRange), ("strconv.ErrSyntax", laid_strconv_ErrSyntax)], narrowed := true }
def FnTextInUptoSaid : Prop := fnTextInUptoRow.holds Tryz.pinned (OpenSpec.upto fnTextInSpec)

/-- 'laws.FnTextHides', WHERE WHAT IT READS IS OF BULK AT MOST 1048576: true; the input reads as it did. -/
def fnTextHidesUptoRow : OpenClaim := { program := "ytijompkonaiagaagreatdoor", sum := "fefd4f3205e8c0a263a729ebec6be580afac84a7a3dc0c66885d7103a224203c", func := "loop.example/ostiary/laws.FnTextHides", spec := "fnTextHides", inPlace := ["internal/bytealg.IndexByteString", "internal/bytealg.IndexString", "internal/abi.NoEscape", "internal/bytealg.MakeNoZero"], recurses := true, named := ["internal/bytealg.MaxLen", "strconv.ErrSyntax", "strconv.ErrRange", "internal/strconv.uint64pow10", "math/bits.deBruijn32tab", "math/bits.deBruijn64tab"], apart := false, laid := [("math/bits.deBruijn32tab", laid_math_bits_deBruijn32tab), ("math/bits.deBruijn64tab", laid_math_bits_deBruijn64tab), ("internal/strconv.uint64pow10", laid_internal_strconv_uint64pow10), ("strconv.ErrRange", laid_strconv_ErrRange), ("strconv.ErrSyntax", laid_strconv_ErrSyntax)], narrowed := true }
def FnTextHidesUptoSaid : Prop := fnTextHidesUptoRow.holds Tryz.pinned (OpenSpec.upto fnTextHidesSpec)

/-- 'laws.FnInMore', WHERE WHAT IT READS IS OF BULK AT MOST 1048576: true; the input reads as it did. -/
def fnInMoreUptoRow : OpenClaim := { program := "ytijompkonaiagaagreatdoor", sum := "fefd4f3205e8c0a263a729ebec6be580afac84a7a3dc0c66885d7103a224203c", func := "loop.example/ostiary/laws.FnInMore", spec := "fnInMore", inPlace := ["internal/bytealg.IndexByteString", "internal/bytealg.IndexString", "internal/abi.NoEscape", "internal/bytealg.MakeNoZero"], recurses := true, named := ["internal/bytealg.MaxLen", "strconv.ErrSyntax", "strconv.ErrRange", "internal/strconv.uint64pow10", "math/bits.deBruijn32tab", "math/bits.deBruijn64tab"], apart := false, laid := [("math/bits.deBruijn32tab", laid_math_bits_deBruijn32tab), ("math/bits.deBruijn64tab", laid_math_bits_deBruijn64tab), ("internal/strconv.uint64pow10", laid_internal_strconv_uint64pow10), ("strconv.ErrRange", laid_strconv_ErrRange), ("strconv.ErrSyntax", laid_strconv_ErrSyntax)], narrowed := true }
def FnInMoreUptoSaid : Prop := fnInMoreUptoRow.holds Tryz.pinned (OpenSpec.upto fnInMoreSpec)

/-- 'laws.FnTextStep', WHERE WHAT IT READS IS OF BULK AT MOST 1048576: true; the input reads as it did. -/
def fnTextStepUptoRow : OpenClaim := { program := "ytijompkonaiagaagreatdoor", sum := "fefd4f3205e8c0a263a729ebec6be580afac84a7a3dc0c66885d7103a224203c", func := "loop.example/ostiary/laws.FnTextStep", spec := "fnTextStep", inPlace := ["internal/bytealg.IndexByteString", "internal/bytealg.IndexString", "internal/abi.NoEscape", "internal/bytealg.MakeNoZero"], recurses := true, named := ["internal/bytealg.MaxLen", "strconv.ErrSyntax", "strconv.ErrRange", "internal/strconv.uint64pow10", "math/bits.deBruijn32tab", "math/bits.deBruijn64tab"], apart := false, laid := [("math/bits.deBruijn32tab", laid_math_bits_deBruijn32tab), ("math/bits.deBruijn64tab", laid_math_bits_deBruijn64tab), ("internal/strconv.uint64pow10", laid_internal_strconv_uint64pow10), ("strconv.ErrRange", laid_strconv_ErrRange), ("strconv.ErrSyntax", laid_strconv_ErrSyntax)], narrowed := true }
def FnTextStepUptoSaid : Prop := fnTextStepUptoRow.holds Tryz.pinned (OpenSpec.upto fnTextStepSpec)

/-- 'laws.FnOutLong', WHERE WHAT IT READS IS OF BULK AT MOST 1048576: true; the input reads as it did. -/
def fnOutLongUptoRow : OpenClaim := { program := "ytijompkonaiagaagreatdoor", sum := "fefd4f3205e8c0a263a729ebec6be580afac84a7a3dc0c66885d7103a224203c", func := "loop.example/ostiary/laws.FnOutLong", spec := "fnOutLong", inPlace := ["internal/bytealg.IndexByteString", "internal/bytealg.IndexString", "internal/abi.NoEscape", "internal/bytealg.MakeNoZero"], recurses := true, named := ["internal/bytealg.MaxLen", "strconv.ErrSyntax", "strconv.ErrRange", "internal/strconv.uint64pow10", "math/bits.deBruijn32tab", "math/bits.deBruijn64tab"], apart := false, laid := [("math/bits.deBruijn32tab", laid_math_bits_deBruijn32tab), ("math/bits.deBruijn64tab", laid_math_bits_deBruijn64tab), ("internal/strconv.uint64pow10", laid_internal_strconv_uint64pow10), ("strconv.ErrRange", laid_strconv_ErrRange), ("strconv.ErrSyntax", laid_strconv_ErrSyntax)], narrowed := true }
def FnOutLongUptoSaid : Prop := fnOutLongUptoRow.holds Tryz.pinned (OpenSpec.upto fnOutLongSpec)

/-- 'laws.FnTextThere', WHERE WHAT IT READS IS OF BULK AT MOST 1048576: true; the input reads as it did. -/
def fnTextThereUptoRow : OpenClaim := { program := "ytijompkonaiagaagreatdoor", sum := "fefd4f3205e8c0a263a729ebec6be580afac84a7a3dc0c66885d7103a224203c", func := "loop.example/ostiary/laws.FnTextThere", spec := "fnTextThere", inPlace := ["internal/bytealg.IndexByteString", "internal/bytealg.IndexString", "internal/abi.NoEscape", "internal/bytealg.MakeNoZero"], recurses := true, named := ["internal/bytealg.MaxLen", "strconv.ErrSyntax", "strconv.ErrRange", "internal/strconv.uint64pow10", "math/bits.deBruijn32tab", "math/bits.deBruijn64tab"], apart := false, laid := [("math/bits.deBruijn32tab", laid_math_bits_deBruijn32tab), ("math/bits.deBruijn64tab", laid_math_bits_deBruijn64tab), ("internal/strconv.uint64pow10", laid_internal_strconv_uint64pow10), ("strconv.ErrRange", laid_strconv_ErrRange), ("strconv.ErrSyntax", laid_strconv_ErrSyntax)], narrowed := true }
def FnTextThereUptoSaid : Prop := fnTextThereUptoRow.holds Tryz.pinned (OpenSpec.upto fnTextThereSpec)

end Rows
end Go.Proofs.YtijompkonaiagaaGreatDoor
