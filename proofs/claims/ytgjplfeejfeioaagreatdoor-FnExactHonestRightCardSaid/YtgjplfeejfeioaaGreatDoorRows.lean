/-
  NARROWER THAN 'FOR EVERY INPUT', by the rows' own cells (each row's printed sentence says how): FnExactClusterFault: laid · FnExactSafeRight: laid · FnExactAlikeRight: laid · FnExactHonestRight: laid · FnExactLagC: laid · FnExactViewFor: laid · FnExactWaitingC: laid · FnExactValuesC: laid · FnExactClusterText: laid · FnExactOfferC: laid · FnExactAdoptC: laid · FnExactDoneC: laid.
  DERIVED. THE GIVEN ROWS OF THIS SEAT. 12 by the template 'for every input the law returns true; each argument reads behind the call as it read before'; 0 by the template 'total and deterministic' (their statements: YtgjplfeejfeioaaGreatDoorTotals.lean).
  GIVEN WITH THE SEED: the statements are not yours to turn. If you find one false, say at which input.
  Laid BY PROGRAM, IN A SANDBOX (cutbox-rows.mjs): the forced cells as the released guide's own fill.sh prints them over the translation 231a475ccf1b0107… (all of the seat's roots in one cut). By AI agents, Wed Nov 11 2026. No macro, syntax, notation, axiom, sorry.
-/
import Derived.Test.YtgjplfeejfeioaaGreatDoorChecked
import GoSem.PinnedTables
import GoSem.Claim
import GoSem.ClaimJoined
import GoSem.ClaimMapViews
import Derived.JoinedTies
import Derived.KernelRfl
namespace Go.Proofs.YtgjplfeejfeioaaGreatDoor
/- THE CELL 'sum', in the pinned program and in every row, IS THE sha256 OF THE DUMP (.gsa) THAT YtgjplfeejfeioaaGreatDoorProg.lean LOADS. Nothing in Lean hashes anything: it is a label: what it is worth is what the hold of that sum in a sandbox is worth. -/
noncomputable def Tryz.pinned : Pinned := { name := "ytgjplfeejfeioaagreatdoor", sum := "231a475ccf1b010763fe3a4308bbe04db5c6904e87b6f0b33296f3cdcc83200c", checked := Tryz.checked }
namespace Rows
def none {H : Type} : Left H := { results := [], args := [] }

/- WHAT THE LISTED PACKAGE-LEVEL VARIABLES READ AS WHEN THE CALL BEGINS. Each datum BY PROGRAM (the guide's laid-datum.mjs) off the statement by which the dump's own 'gosem.cut.vars' lays the variable. In a bare row this is a premise. The card (YtgjplfeejfeioaaGreatDoorCards.lean) ties it to the program's text. -/
def laid_unicode_utf8_acceptRanges {H : Type} : DataW H := .agg [.agg [.lit (.int .u8 128), .lit (.int .u8 191)], .agg [.lit (.int .u8 160), .lit (.int .u8 191)], .agg [.lit (.int .u8 128), .lit (.int .u8 159)], .agg [.lit (.int .u8 144), .lit (.int .u8 191)], .agg [.lit (.int .u8 128), .lit (.int .u8 143)], .agg [.lit (.int .u8 0), .lit (.int .u8 0)], .agg [.lit (.int .u8 0), .lit (.int .u8 0)], .agg [.lit (.int .u8 0), .lit (.int .u8 0)], .agg [.lit (.int .u8 0), .lit (.int .u8 0)], .agg [.lit (.int .u8 0), .lit (.int .u8 0)], .agg [.lit (.int .u8 0), .lit (.int .u8 0)], .agg [.lit (.int .u8 0), .lit (.int .u8 0)], .agg [.lit (.int .u8 0), .lit (.int .u8 0)], .agg [.lit (.int .u8 0), .lit (.int .u8 0)], .agg [.lit (.int .u8 0), .lit (.int .u8 0)], .agg [.lit (.int .u8 0), .lit (.int .u8 0)]]
/-- One of Go's own tables, pinned by name: the form's constant. -/
def laid_unicode_utf8_first : DataW Unit := Go.Pinned.utf8First
def laid_math_bits_deBruijn32tab {H : Type} : DataW H := .agg [.lit (.int .u8 0), .lit (.int .u8 1), .lit (.int .u8 28), .lit (.int .u8 2), .lit (.int .u8 29), .lit (.int .u8 14), .lit (.int .u8 24), .lit (.int .u8 3), .lit (.int .u8 30), .lit (.int .u8 22), .lit (.int .u8 20), .lit (.int .u8 15), .lit (.int .u8 25), .lit (.int .u8 17), .lit (.int .u8 4), .lit (.int .u8 8), .lit (.int .u8 31), .lit (.int .u8 27), .lit (.int .u8 13), .lit (.int .u8 23), .lit (.int .u8 21), .lit (.int .u8 19), .lit (.int .u8 16), .lit (.int .u8 7), .lit (.int .u8 26), .lit (.int .u8 12), .lit (.int .u8 18), .lit (.int .u8 6), .lit (.int .u8 11), .lit (.int .u8 5), .lit (.int .u8 10), .lit (.int .u8 9)]
def laid_math_bits_deBruijn64tab {H : Type} : DataW H := .agg [.lit (.int .u8 0), .lit (.int .u8 1), .lit (.int .u8 56), .lit (.int .u8 2), .lit (.int .u8 57), .lit (.int .u8 49), .lit (.int .u8 28), .lit (.int .u8 3), .lit (.int .u8 61), .lit (.int .u8 58), .lit (.int .u8 42), .lit (.int .u8 50), .lit (.int .u8 38), .lit (.int .u8 29), .lit (.int .u8 17), .lit (.int .u8 4), .lit (.int .u8 62), .lit (.int .u8 47), .lit (.int .u8 59), .lit (.int .u8 36), .lit (.int .u8 45), .lit (.int .u8 43), .lit (.int .u8 51), .lit (.int .u8 22), .lit (.int .u8 53), .lit (.int .u8 39), .lit (.int .u8 33), .lit (.int .u8 30), .lit (.int .u8 24), .lit (.int .u8 18), .lit (.int .u8 12), .lit (.int .u8 5), .lit (.int .u8 63), .lit (.int .u8 55), .lit (.int .u8 48), .lit (.int .u8 27), .lit (.int .u8 60), .lit (.int .u8 41), .lit (.int .u8 37), .lit (.int .u8 16), .lit (.int .u8 46), .lit (.int .u8 35), .lit (.int .u8 44), .lit (.int .u8 21), .lit (.int .u8 52), .lit (.int .u8 32), .lit (.int .u8 23), .lit (.int .u8 11), .lit (.int .u8 54), .lit (.int .u8 26), .lit (.int .u8 40), .lit (.int .u8 15), .lit (.int .u8 34), .lit (.int .u8 20), .lit (.int .u8 31), .lit (.int .u8 10), .lit (.int .u8 25), .lit (.int .u8 14), .lit (.int .u8 19), .lit (.int .u8 9), .lit (.int .u8 13), .lit (.int .u8 8), .lit (.int .u8 7), .lit (.int .u8 6)]
def laid_internal_strconv_uint64pow10 {H : Type} : DataW H := .agg [.lit (.int .u64 1), .lit (.int .u64 10), .lit (.int .u64 100), .lit (.int .u64 1000), .lit (.int .u64 10000), .lit (.int .u64 100000), .lit (.int .u64 1000000), .lit (.int .u64 10000000), .lit (.int .u64 100000000), .lit (.int .u64 1000000000), .lit (.int .u64 10000000000), .lit (.int .u64 100000000000), .lit (.int .u64 1000000000000), .lit (.int .u64 10000000000000), .lit (.int .u64 100000000000000), .lit (.int .u64 1000000000000000), .lit (.int .u64 10000000000000000), .lit (.int .u64 100000000000000000), .lit (.int .u64 1000000000000000000), .lit (.int .u64 10000000000000000000)]

/-- 'laws.FnExactClusterFault': WHATEVER THE INPUT: true; the input reads as it did. -/
def fnExactClusterFaultSpec : ChangeSpec := { name := "fnExactClusterFault", fn := fun _ => fun
  | [d] => { results := [.lit (.bool true)], args := [d] }
  | _ => none }
def fnExactClusterFaultRow : OpenClaim := { program := "ytgjplfeejfeioaagreatdoor", sum := "231a475ccf1b010763fe3a4308bbe04db5c6904e87b6f0b33296f3cdcc83200c", func := "loop.example/g00369/laws.FnExactClusterFault", spec := "fnExactClusterFault", inPlace := ["internal/bytealg.IndexByteString", "internal/bytealg.IndexString", "internal/bytealg.CountString"], unfollowed := true, recurses := true, named := ["internal/bytealg.MaxLen", "unicode/utf8.first", "unicode/utf8.acceptRanges"], apart := false, laid := [("unicode/utf8.acceptRanges", laid_unicode_utf8_acceptRanges), ("unicode/utf8.first", laid_unicode_utf8_first)] }
def FnExactClusterFaultSaid : Prop := fnExactClusterFaultRow.holds Tryz.pinned (OpenSpec.ofChange fnExactClusterFaultSpec)

/-- ITS FALSE NEIGHBOUR: 'it returns false'. Refute it at one input. -/
def fnExactClusterFaultWrong : ChangeSpec := { name := "fnExactClusterFault", fn := fun _ => fun
  | [d] => { results := [.lit (.bool false)], args := [d] }
  | _ => none }
def FnExactClusterFaultWrongFalsely : Prop := fnExactClusterFaultRow.holds Tryz.pinned (OpenSpec.ofChange fnExactClusterFaultWrong)

/-- 'laws.FnExactSafeRight': WHATEVER THE INPUT: true; the input reads as it did. -/
def fnExactSafeRightSpec : ChangeSpec := { name := "fnExactSafeRight", fn := fun _ => fun
  | [d] => { results := [.lit (.bool true)], args := [d] }
  | _ => none }
def fnExactSafeRightRow : OpenClaim := { program := "ytgjplfeejfeioaagreatdoor", sum := "231a475ccf1b010763fe3a4308bbe04db5c6904e87b6f0b33296f3cdcc83200c", func := "loop.example/g00369/laws.FnExactSafeRight", spec := "fnExactSafeRight", inPlace := ["internal/bytealg.IndexByteString", "internal/bytealg.IndexString", "internal/bytealg.CountString"], unfollowed := true, recurses := true, named := ["internal/bytealg.MaxLen", "unicode/utf8.first", "unicode/utf8.acceptRanges"], apart := false, laid := [("unicode/utf8.acceptRanges", laid_unicode_utf8_acceptRanges), ("unicode/utf8.first", laid_unicode_utf8_first)] }
def FnExactSafeRightSaid : Prop := fnExactSafeRightRow.holds Tryz.pinned (OpenSpec.ofChange fnExactSafeRightSpec)

/-- ITS FALSE NEIGHBOUR: 'it returns false'. Refute it at one input. -/
def fnExactSafeRightWrong : ChangeSpec := { name := "fnExactSafeRight", fn := fun _ => fun
  | [d] => { results := [.lit (.bool false)], args := [d] }
  | _ => none }
def FnExactSafeRightWrongFalsely : Prop := fnExactSafeRightRow.holds Tryz.pinned (OpenSpec.ofChange fnExactSafeRightWrong)

/-- 'laws.FnExactAlikeRight': WHATEVER THE INPUT: true; the input reads as it did. -/
def fnExactAlikeRightSpec : ChangeSpec := { name := "fnExactAlikeRight", fn := fun _ => fun
  | [d] => { results := [.lit (.bool true)], args := [d] }
  | _ => none }
def fnExactAlikeRightRow : OpenClaim := { program := "ytgjplfeejfeioaagreatdoor", sum := "231a475ccf1b010763fe3a4308bbe04db5c6904e87b6f0b33296f3cdcc83200c", func := "loop.example/g00369/laws.FnExactAlikeRight", spec := "fnExactAlikeRight", inPlace := ["internal/bytealg.IndexByteString", "internal/bytealg.IndexString", "internal/bytealg.CountString"], unfollowed := true, recurses := true, named := ["internal/bytealg.MaxLen", "unicode/utf8.first", "unicode/utf8.acceptRanges"], apart := false, laid := [("unicode/utf8.acceptRanges", laid_unicode_utf8_acceptRanges), ("unicode/utf8.first", laid_unicode_utf8_first)] }
def FnExactAlikeRightSaid : Prop := fnExactAlikeRightRow.holds Tryz.pinned (OpenSpec.ofChange fnExactAlikeRightSpec)

/-- ITS FALSE NEIGHBOUR: 'it returns false'. Refute it at one input. -/
def fnExactAlikeRightWrong : ChangeSpec := { name := "fnExactAlikeRight", fn := fun _ => fun
  | [d] => { results := [.lit (.bool false)], args := [d] }
  | _ => none }
def FnExactAlikeRightWrongFalsely : Prop := fnExactAlikeRightRow.holds Tryz.pinned (OpenSpec.ofChange fnExactAlikeRightWrong)

/-- 'laws.FnExactHonestRight': WHATEVER THE INPUT: true; the input reads as it did. -/
def fnExactHonestRightSpec : ChangeSpec := { name := "fnExactHonestRight", fn := fun _ => fun
  | [d] => { results := [.lit (.bool true)], args := [d] }
  | _ => none }
def fnExactHonestRightRow : OpenClaim := { program := "ytgjplfeejfeioaagreatdoor", sum := "231a475ccf1b010763fe3a4308bbe04db5c6904e87b6f0b33296f3cdcc83200c", func := "loop.example/g00369/laws.FnExactHonestRight", spec := "fnExactHonestRight", inPlace := ["internal/bytealg.IndexByteString", "internal/bytealg.IndexString", "internal/bytealg.CountString"], unfollowed := true, recurses := true, named := ["internal/bytealg.MaxLen", "unicode/utf8.first", "unicode/utf8.acceptRanges"], apart := false, laid := [("unicode/utf8.acceptRanges", laid_unicode_utf8_acceptRanges), ("unicode/utf8.first", laid_unicode_utf8_first)] }
def FnExactHonestRightSaid : Prop := fnExactHonestRightRow.holds Tryz.pinned (OpenSpec.ofChange fnExactHonestRightSpec)

/-- ITS FALSE NEIGHBOUR: 'it returns false'. Refute it at one input. -/
def fnExactHonestRightWrong : ChangeSpec := { name := "fnExactHonestRight", fn := fun _ => fun
  | [d] => { results := [.lit (.bool false)], args := [d] }
  | _ => none }
def FnExactHonestRightWrongFalsely : Prop := fnExactHonestRightRow.holds Tryz.pinned (OpenSpec.ofChange fnExactHonestRightWrong)

/-- 'laws.FnExactLagC': WHATEVER THE INPUT: true; the input reads as it did. -/
def fnExactLagCSpec : ChangeSpec := { name := "fnExactLagC", fn := fun _ => fun
  | [d1, d2] => { results := [.lit (.bool true)], args := [d1, d2] }
  | _ => none }
def fnExactLagCRow : OpenClaim := { program := "ytgjplfeejfeioaagreatdoor", sum := "231a475ccf1b010763fe3a4308bbe04db5c6904e87b6f0b33296f3cdcc83200c", func := "loop.example/g00369/laws.FnExactLagC", spec := "fnExactLagC", inPlace := ["internal/bytealg.IndexByteString", "internal/bytealg.IndexString", "internal/bytealg.CountString"], unfollowed := true, recurses := true, named := ["internal/bytealg.MaxLen", "unicode/utf8.first", "unicode/utf8.acceptRanges"], apart := false, laid := [("unicode/utf8.acceptRanges", laid_unicode_utf8_acceptRanges), ("unicode/utf8.first", laid_unicode_utf8_first)] }
def FnExactLagCSaid : Prop := fnExactLagCRow.holds Tryz.pinned (OpenSpec.ofChange fnExactLagCSpec)

/-- ITS FALSE NEIGHBOUR: 'it returns false'. Refute it at one input. -/
def fnExactLagCWrong : ChangeSpec := { name := "fnExactLagC", fn := fun _ => fun
  | [d1, d2] => { results := [.lit (.bool false)], args := [d1, d2] }
  | _ => none }
def FnExactLagCWrongFalsely : Prop := fnExactLagCRow.holds Tryz.pinned (OpenSpec.ofChange fnExactLagCWrong)

/-- 'laws.FnExactViewFor': WHATEVER THE INPUT: true; the input reads as it did. -/
def fnExactViewForSpec : ChangeSpec := { name := "fnExactViewFor", fn := fun _ => fun
  | [d] => { results := [.lit (.bool true)], args := [d] }
  | _ => none }
def fnExactViewForRow : OpenClaim := { program := "ytgjplfeejfeioaagreatdoor", sum := "231a475ccf1b010763fe3a4308bbe04db5c6904e87b6f0b33296f3cdcc83200c", func := "loop.example/g00369/laws.FnExactViewFor", spec := "fnExactViewFor", inPlace := ["internal/bytealg.IndexByteString", "internal/bytealg.IndexString", "internal/bytealg.CountString"], unfollowed := true, recurses := true, named := ["internal/bytealg.MaxLen", "unicode/utf8.first", "unicode/utf8.acceptRanges"], apart := false, laid := [("unicode/utf8.acceptRanges", laid_unicode_utf8_acceptRanges), ("unicode/utf8.first", laid_unicode_utf8_first)] }
def FnExactViewForSaid : Prop := fnExactViewForRow.holds Tryz.pinned (OpenSpec.ofChange fnExactViewForSpec)

/-- ITS FALSE NEIGHBOUR: 'it returns false'. Refute it at one input. -/
def fnExactViewForWrong : ChangeSpec := { name := "fnExactViewFor", fn := fun _ => fun
  | [d] => { results := [.lit (.bool false)], args := [d] }
  | _ => none }
def FnExactViewForWrongFalsely : Prop := fnExactViewForRow.holds Tryz.pinned (OpenSpec.ofChange fnExactViewForWrong)

/-- 'laws.FnExactWaitingC': WHATEVER THE INPUT: true; the input reads as it did. -/
def fnExactWaitingCSpec : ChangeSpec := { name := "fnExactWaitingC", fn := fun _ => fun
  | [d] => { results := [.lit (.bool true)], args := [d] }
  | _ => none }
def fnExactWaitingCRow : OpenClaim := { program := "ytgjplfeejfeioaagreatdoor", sum := "231a475ccf1b010763fe3a4308bbe04db5c6904e87b6f0b33296f3cdcc83200c", func := "loop.example/g00369/laws.FnExactWaitingC", spec := "fnExactWaitingC", inPlace := ["internal/bytealg.IndexByteString", "internal/bytealg.IndexString", "internal/bytealg.CountString"], unfollowed := true, recurses := true, named := ["internal/bytealg.MaxLen", "unicode/utf8.first", "unicode/utf8.acceptRanges"], apart := false, laid := [("unicode/utf8.acceptRanges", laid_unicode_utf8_acceptRanges), ("unicode/utf8.first", laid_unicode_utf8_first)] }
def FnExactWaitingCSaid : Prop := fnExactWaitingCRow.holds Tryz.pinned (OpenSpec.ofChange fnExactWaitingCSpec)

/-- ITS FALSE NEIGHBOUR: 'it returns false'. Refute it at one input. -/
def fnExactWaitingCWrong : ChangeSpec := { name := "fnExactWaitingC", fn := fun _ => fun
  | [d] => { results := [.lit (.bool false)], args := [d] }
  | _ => none }
def FnExactWaitingCWrongFalsely : Prop := fnExactWaitingCRow.holds Tryz.pinned (OpenSpec.ofChange fnExactWaitingCWrong)

/-- 'laws.FnExactValuesC': WHATEVER THE INPUT: true; the input reads as it did. -/
def fnExactValuesCSpec : ChangeSpec := { name := "fnExactValuesC", fn := fun _ => fun
  | [d1, d2] => { results := [.lit (.bool true)], args := [d1, d2] }
  | _ => none }
def fnExactValuesCRow : OpenClaim := { program := "ytgjplfeejfeioaagreatdoor", sum := "231a475ccf1b010763fe3a4308bbe04db5c6904e87b6f0b33296f3cdcc83200c", func := "loop.example/g00369/laws.FnExactValuesC", spec := "fnExactValuesC", inPlace := ["internal/bytealg.IndexByteString", "internal/bytealg.IndexString", "internal/bytealg.CountString"], unfollowed := true, recurses := true, named := ["internal/bytealg.MaxLen", "unicode/utf8.first", "unicode/utf8.acceptRanges"], apart := false, laid := [("unicode/utf8.acceptRanges", laid_unicode_utf8_acceptRanges), ("unicode/utf8.first", laid_unicode_utf8_first)] }
def FnExactValuesCSaid : Prop := fnExactValuesCRow.holds Tryz.pinned (OpenSpec.ofChange fnExactValuesCSpec)

/-- ITS FALSE NEIGHBOUR: 'it returns false'. Refute it at one input. -/
def fnExactValuesCWrong : ChangeSpec := { name := "fnExactValuesC", fn := fun _ => fun
  | [d1, d2] => { results := [.lit (.bool false)], args := [d1, d2] }
  | _ => none }
def FnExactValuesCWrongFalsely : Prop := fnExactValuesCRow.holds Tryz.pinned (OpenSpec.ofChange fnExactValuesCWrong)

/-- 'laws.FnExactClusterText': WHATEVER THE INPUT: true; the input reads as it did. -/
def fnExactClusterTextSpec : ChangeSpec := { name := "fnExactClusterText", fn := fun _ => fun
  | [d] => { results := [.lit (.bool true)], args := [d] }
  | _ => none }
def fnExactClusterTextRow : OpenClaim := { program := "ytgjplfeejfeioaagreatdoor", sum := "231a475ccf1b010763fe3a4308bbe04db5c6904e87b6f0b33296f3cdcc83200c", func := "loop.example/g00369/laws.FnExactClusterText", spec := "fnExactClusterText", inPlace := ["internal/bytealg.IndexByteString", "internal/bytealg.IndexString", "internal/bytealg.CountString", "internal/abi.NoEscape", "internal/bytealg.MakeNoZero"], unfollowed := true, recurses := true, named := ["internal/bytealg.MaxLen", "unicode/utf8.first", "unicode/utf8.acceptRanges", "internal/strconv.uint64pow10", "math/bits.deBruijn32tab", "math/bits.deBruijn64tab"], apart := false, laid := [("math/bits.deBruijn32tab", laid_math_bits_deBruijn32tab), ("math/bits.deBruijn64tab", laid_math_bits_deBruijn64tab), ("internal/strconv.uint64pow10", laid_internal_strconv_uint64pow10), ("unicode/utf8.acceptRanges", laid_unicode_utf8_acceptRanges), ("unicode/utf8.first", laid_unicode_utf8_first)] }
def FnExactClusterTextSaid : Prop := fnExactClusterTextRow.holds Tryz.pinned (OpenSpec.ofChange fnExactClusterTextSpec)

/-- ITS FALSE NEIGHBOUR: 'it returns false'. Refute it at one input. -/
def fnExactClusterTextWrong : ChangeSpec := { name := "fnExactClusterText", fn := fun _ => fun
  | [d] => { results := [.lit (.bool false)], args := [d] }
  | _ => none }
def FnExactClusterTextWrongFalsely : Prop := fnExactClusterTextRow.holds Tryz.pinned (OpenSpec.ofChange fnExactClusterTextWrong)

/-- 'laws.FnExactOfferC': WHATEVER THE INPUT: true; the input reads as it did. -/
def fnExactOfferCSpec : ChangeSpec := { name := "fnExactOfferC", fn := fun _ => fun
  | [d1, d2] => { results := [.lit (.bool true)], args := [d1, d2] }
  | _ => none }
def fnExactOfferCRow : OpenClaim := { program := "ytgjplfeejfeioaagreatdoor", sum := "231a475ccf1b010763fe3a4308bbe04db5c6904e87b6f0b33296f3cdcc83200c", func := "loop.example/g00369/laws.FnExactOfferC", spec := "fnExactOfferC", inPlace := ["internal/bytealg.IndexByteString", "internal/bytealg.IndexString", "internal/bytealg.CountString"], unfollowed := true, recurses := true, named := ["internal/bytealg.MaxLen", "unicode/utf8.first", "unicode/utf8.acceptRanges"], apart := false, laid := [("unicode/utf8.acceptRanges", laid_unicode_utf8_acceptRanges), ("unicode/utf8.first", laid_unicode_utf8_first)] }
def FnExactOfferCSaid : Prop := fnExactOfferCRow.holds Tryz.pinned (OpenSpec.ofChange fnExactOfferCSpec)

/-- ITS FALSE NEIGHBOUR: 'it returns false'. Refute it at one input. -/
def fnExactOfferCWrong : ChangeSpec := { name := "fnExactOfferC", fn := fun _ => fun
  | [d1, d2] => { results := [.lit (.bool false)], args := [d1, d2] }
  | _ => none }
def FnExactOfferCWrongFalsely : Prop := fnExactOfferCRow.holds Tryz.pinned (OpenSpec.ofChange fnExactOfferCWrong)

/-- 'laws.FnExactAdoptC': WHATEVER THE INPUT: true; the input reads as it did. -/
def fnExactAdoptCSpec : ChangeSpec := { name := "fnExactAdoptC", fn := fun _ => fun
  | [d1, d2, d3] => { results := [.lit (.bool true)], args := [d1, d2, d3] }
  | _ => none }
def fnExactAdoptCRow : OpenClaim := { program := "ytgjplfeejfeioaagreatdoor", sum := "231a475ccf1b010763fe3a4308bbe04db5c6904e87b6f0b33296f3cdcc83200c", func := "loop.example/g00369/laws.FnExactAdoptC", spec := "fnExactAdoptC", inPlace := ["internal/bytealg.IndexByteString", "internal/bytealg.IndexString", "internal/bytealg.CountString"], unfollowed := true, recurses := true, named := ["internal/bytealg.MaxLen", "unicode/utf8.first", "unicode/utf8.acceptRanges"], apart := false, laid := [("unicode/utf8.acceptRanges", laid_unicode_utf8_acceptRanges), ("unicode/utf8.first", laid_unicode_utf8_first)] }
def FnExactAdoptCSaid : Prop := fnExactAdoptCRow.holds Tryz.pinned (OpenSpec.ofChange fnExactAdoptCSpec)

/-- ITS FALSE NEIGHBOUR: 'it returns false'. Refute it at one input. -/
def fnExactAdoptCWrong : ChangeSpec := { name := "fnExactAdoptC", fn := fun _ => fun
  | [d1, d2, d3] => { results := [.lit (.bool false)], args := [d1, d2, d3] }
  | _ => none }
def FnExactAdoptCWrongFalsely : Prop := fnExactAdoptCRow.holds Tryz.pinned (OpenSpec.ofChange fnExactAdoptCWrong)

/-- 'laws.FnExactDoneC': WHATEVER THE INPUT: true; the input reads as it did. -/
def fnExactDoneCSpec : ChangeSpec := { name := "fnExactDoneC", fn := fun _ => fun
  | [d1, d2] => { results := [.lit (.bool true)], args := [d1, d2] }
  | _ => none }
def fnExactDoneCRow : OpenClaim := { program := "ytgjplfeejfeioaagreatdoor", sum := "231a475ccf1b010763fe3a4308bbe04db5c6904e87b6f0b33296f3cdcc83200c", func := "loop.example/g00369/laws.FnExactDoneC", spec := "fnExactDoneC", inPlace := ["internal/bytealg.IndexByteString", "internal/bytealg.IndexString", "internal/bytealg.CountString"], unfollowed := true, recurses := true, named := ["internal/bytealg.MaxLen", "unicode/utf8.first", "unicode/utf8.acceptRanges"], apart := false, laid := [("unicode/utf8.acceptRanges", laid_unicode_utf8_acceptRanges), ("unicode/utf8.first", laid_unicode_utf8_first)] }
def FnExactDoneCSaid : Prop := fnExactDoneCRow.holds Tryz.pinned (OpenSpec.ofChange fnExactDoneCSpec)

/-- ITS FALSE NEIGHBOUR: 'it returns false'. Refute it at one input. -/
def fnExactDoneCWrong : ChangeSpec := { name := "fnExactDoneC", fn := fun _ => fun
  | [d1, d2] => { results := [.lit (.bool false)], args := [d1, d2] }
  | _ => none }
def FnExactDoneCWrongFalsely : Prop := fnExactDoneCRow.holds Tryz.pinned (OpenSpec.ofChange fnExactDoneCWrong)

/- THE SECOND FORM. 'bulk': how many values and letters a reading holds, each counted each time it is reached (what is shared counts as often as it is met; a slice's spare places count too). A statement '..UptoSaid' is the law's where the arguments, and the package variables that the reading takes, are together of bulk at most 1048576: NARROWER than '..Said'. Prove '..Said' where nothing that the law and all that it calls make is longer than what came in: it says more and counts as full. Else prove '..UptoSaid'. A law counts once. -/
mutual
def uptoBulk {H : Type} : DataW H → Nat
  | .lit (.string bytes) => bytes.length + 1
  | .lit _ => 1
  | .nil => 1
  | .ptr d => uptoBulk d + 1
  | .slice elems spare => uptoBulkAll elems + uptoBulkAll spare + 1
  | .agg parts => uptoBulkAll parts + 1
  | .iface _ d => uptoBulk d + 1
  | .map entries => uptoBulkEntries entries + 1
  | .held _ => 1
def uptoBulkAll {H : Type} : List (DataW H) → Nat
  | [] => 0
  | d :: r => uptoBulk d + uptoBulkAll r
def uptoBulkEntries {H : Type} : List (Lit × DataW H) → Nat
  | [] => 0
  | x :: r => uptoBulkEntry x + uptoBulkEntries r
def uptoBulkEntry {H : Type} : Lit × DataW H → Nat
  | (.string bytes, d) => bytes.length + uptoBulk d + 1
  | (_, d) => uptoBulk d + 1
 end
def uptoSmall : (H : Type) → List (DataW H) → Bool := fun _ ds => decide (uptoBulkAll ds ≤ 1048576)
def OpenSpec.upto (s : _root_.Go.ChangeSpec) : _root_.Go.OpenSpec := { _root_.Go.OpenSpec.ofChange s with cond := some uptoSmall }

/-- 'laws.FnExactClusterFault', WHERE WHAT IT READS IS OF BULK AT MOST 1048576: true; the input reads as it did. -/
def fnExactClusterFaultUptoRow : OpenClaim := { program := "ytgjplfeejfeioaagreatdoor", sum := "231a475ccf1b010763fe3a4308bbe04db5c6904e87b6f0b33296f3cdcc83200c", func := "loop.example/g00369/laws.FnExactClusterFault", spec := "fnExactClusterFault", inPlace := ["internal/bytealg.IndexByteString", "internal/bytealg.IndexString", "internal/bytealg.CountString"], unfollowed := true, recurses := true, named := ["internal/bytealg.MaxLen", "unicode/utf8.first", "unicode/utf8.acceptRanges"], apart := false, laid := [("unicode/utf8.acceptRanges", laid_unicode_utf8_acceptRanges), ("unicode/utf8.first", laid_unicode_utf8_first)], narrowed := true }
def FnExactClusterFaultUptoSaid : Prop := fnExactClusterFaultUptoRow.holds Tryz.pinned (OpenSpec.upto fnExactClusterFaultSpec)

/-- 'laws.FnExactSafeRight', WHERE WHAT IT READS IS OF BULK AT MOST 1048576: true; the input reads as it did. -/
def fnExactSafeRightUptoRow : OpenClaim := { program := "ytgjplfeejfeioaagreatdoor", sum := "231a475ccf1b010763fe3a4308bbe04db5c6904e87b6f0b33296f3cdcc83200c", func := "loop.example/g00369/laws.FnExactSafeRight", spec := "fnExactSafeRight", inPlace := ["internal/bytealg.IndexByteString", "internal/bytealg.IndexString", "internal/bytealg.CountString"], unfollowed := true, recurses := true, named := ["internal/bytealg.MaxLen", "unicode/utf8.first", "unicode/utf8.acceptRanges"], apart := false, laid := [("unicode/utf8.acceptRanges", laid_unicode_utf8_acceptRanges), ("unicode/utf8.first", laid_unicode_utf8_first)], narrowed := true }
def FnExactSafeRightUptoSaid : Prop := fnExactSafeRightUptoRow.holds Tryz.pinned (OpenSpec.upto fnExactSafeRightSpec)

/-- 'laws.FnExactAlikeRight', WHERE WHAT IT READS IS OF BULK AT MOST 1048576: true; the input reads as it did. -/
def fnExactAlikeRightUptoRow : OpenClaim := { program := "ytgjplfeejfeioaagreatdoor", sum := "231a475ccf1b010763fe3a4308bbe04db5c6904e87b6f0b33296f3cdcc83200c", func := "loop.example/g00369/laws.FnExactAlikeRight", spec := "fnExactAlikeRight", inPlace := ["internal/bytealg.IndexByteString", "internal/bytealg.IndexString", "internal/bytealg.CountString"], unfollowed := true, recurses := true, named := ["internal/bytealg.MaxLen", "unicode/utf8.first", "unicode/utf8.acceptRanges"], apart := false, laid := [("unicode/utf8.acceptRanges", laid_unicode_utf8_acceptRanges), ("unicode/utf8.first", laid_unicode_utf8_first)], narrowed := true }
def FnExactAlikeRightUptoSaid : Prop := fnExactAlikeRightUptoRow.holds Tryz.pinned (OpenSpec.upto fnExactAlikeRightSpec)

/-- 'laws.FnExactHonestRight', WHERE WHAT IT READS IS OF BULK AT MOST 1048576: true; the input reads as it did. -/
def fnExactHonestRightUptoRow : OpenClaim := { program := "ytgjplfeejfeioaagreatdoor", sum := "231a475ccf1b010763fe3a4308bbe04db5c6904e87b6f0b33296f3cdcc83200c", func := "loop.example/g00369/laws.FnExactHonestRight", spec := "fnExactHonestRight", inPlace := ["internal/bytealg.IndexByteString", "internal/bytealg.IndexString", "internal/bytealg.CountString"], unfollowed := true, recurses := true, named := ["internal/bytealg.MaxLen", "unicode/utf8.first", "unicode/utf8.acceptRanges"], apart := false, laid := [("unicode/utf8.acceptRanges", laid_unicode_utf8_acceptRanges), ("unicode/utf8.first", laid_unicode_utf8_first)], narrowed := true }
def FnExactHonestRightUptoSaid : Prop := fnExactHonestRightUptoRow.holds Tryz.pinned (OpenSpec.upto fnExactHonestRightSpec)

/-- 'laws.FnExactLagC', WHERE WHAT IT READS IS OF BULK AT MOST 1048576: true; the input reads as it did. -/
def fnExactLagCUptoRow : OpenClaim := { program := "ytgjplfeejfeioaagreatdoor", sum := "231a475ccf1b010763fe3a4308bbe04db5c6904e87b6f0b33296f3cdcc83200c", func := "loop.example/g00369/laws.FnExactLagC", spec := "fnExactLagC", inPlace := ["internal/bytealg.IndexByteString", "internal/bytealg.IndexString", "internal/bytealg.CountString"], unfollowed := true, recurses := true, named := ["internal/bytealg.MaxLen", "unicode/utf8.first", "unicode/utf8.acceptRanges"], apart := false, laid := [("unicode/utf8.acceptRanges", laid_unicode_utf8_acceptRanges), ("unicode/utf8.first", laid_unicode_utf8_first)], narrowed := true }
def FnExactLagCUptoSaid : Prop := fnExactLagCUptoRow.holds Tryz.pinned (OpenSpec.upto fnExactLagCSpec)

/-- 'laws.FnExactViewFor', WHERE WHAT IT READS IS OF BULK AT MOST 1048576: true; the input reads as it did. -/
def fnExactViewForUptoRow : OpenClaim := { program := "ytgjplfeejfeioaagreatdoor", sum := "231a475ccf1b010763fe3a4308bbe04db5c6904e87b6f0b33296f3cdcc83200c", func := "loop.example/g00369/laws.FnExactViewFor", spec := "fnExactViewFor", inPlace := ["internal/bytealg.IndexByteString", "internal/bytealg.IndexString", "internal/bytealg.CountString"], unfollowed := true, recurses := true, named := ["internal/bytealg.MaxLen", "unicode/utf8.first", "unicode/utf8.acceptRanges"], apart := false, laid := [("unicode/utf8.acceptRanges", laid_unicode_utf8_acceptRanges), ("unicode/utf8.first", laid_unicode_utf8_first)], narrowed := true }
def FnExactViewForUptoSaid : Prop := fnExactViewForUptoRow.holds Tryz.pinned (OpenSpec.upto fnExactViewForSpec)

/-- 'laws.FnExactWaitingC', WHERE WHAT IT READS IS OF BULK AT MOST 1048576: true; the input reads as it did. -/
def fnExactWaitingCUptoRow : OpenClaim := { program := "ytgjplfeejfeioaagreatdoor", sum := "231a475ccf1b010763fe3a4308bbe04db5c6904e87b6f0b33296f3cdcc83200c", func := "loop.example/g00369/laws.FnExactWaitingC", spec := "fnExactWaitingC", inPlace := ["internal/bytealg.IndexByteString", "internal/bytealg.IndexString", "internal/bytealg.CountString"], unfollowed := true, recurses := true, named := ["internal/bytealg.MaxLen", "unicode/utf8.first", "unicode/utf8.acceptRanges"], apart := false, laid := [("unicode/utf8.acceptRanges", laid_unicode_utf8_acceptRanges), ("unicode/utf8.first", laid_unicode_utf8_first)], narrowed := true }
def FnExactWaitingCUptoSaid : Prop := fnExactWaitingCUptoRow.holds Tryz.pinned (OpenSpec.upto fnExactWaitingCSpec)

/-- 'laws.FnExactValuesC', WHERE WHAT IT READS IS OF BULK AT MOST 1048576: true; the input reads as it did. -/
def fnExactValuesCUptoRow : OpenClaim := { program := "ytgjplfeejfeioaagreatdoor", sum := "231a475ccf1b010763fe3a4308bbe04db5c6904e87b6f0b33296f3cdcc83200c", func := "loop.example/g00369/laws.FnExactValuesC", spec := "fnExactValuesC", inPlace := ["internal/bytealg.IndexByteString", "internal/bytealg.IndexString", "internal/bytealg.CountString"], unfollowed := true, recurses := true, named := ["internal/bytealg.MaxLen", "unicode/utf8.first", "unicode/utf8.acceptRanges"], apart := false, laid := [("unicode/utf8.acceptRanges", laid_unicode_utf8_acceptRanges), ("unicode/utf8.first", laid_unicode_utf8_first)], narrowed := true }
def FnExactValuesCUptoSaid : Prop := fnExactValuesCUptoRow.holds Tryz.pinned (OpenSpec.upto fnExactValuesCSpec)

/-- 'laws.FnExactClusterText', WHERE WHAT IT READS IS OF BULK AT MOST 1048576: true; the input reads as it did. -/
def fnExactClusterTextUptoRow : OpenClaim := { program := "ytgjplfeejfeioaagreatdoor", sum := "231a475ccf1b010763fe3a4308bbe04db5c6904e87b6f0b33296f3cdcc83200c", func := "loop.example/g00369/laws.FnExactClusterText", spec := "fnExactClusterText", inPlace := ["internal/bytealg.IndexByteString", "internal/bytealg.IndexString", "internal/bytealg.CountString", "internal/abi.NoEscape", "internal/bytealg.MakeNoZero"], unfollowed := true, recurses := true, named := ["internal/bytealg.MaxLen", "unicode/utf8.first", "unicode/utf8.acceptRanges", "internal/strconv.uint64pow10", "math/bits.deBruijn32tab", "math/bits.deBruijn64tab"], apart := false, laid := [("math/bits.deBruijn32tab", laid_math_bits_deBruijn32tab), ("math/bits.deBruijn64tab", laid_math_bits_deBruijn64tab), ("internal/strconv.uint64pow10", laid_internal_strconv_uint64pow10), ("unicode/utf8.acceptRanges", laid_unicode_utf8_acceptRanges), ("unicode/utf8.first", laid_unicode_utf8_first)], narrowed := true }
def FnExactClusterTextUptoSaid : Prop := fnExactClusterTextUptoRow.holds Tryz.pinned (OpenSpec.upto fnExactClusterTextSpec)

/-- 'laws.FnExactOfferC', WHERE WHAT IT READS IS OF BULK AT MOST 1048576: true; the input reads as it did. -/
def fnExactOfferCUptoRow : OpenClaim := { program := "ytgjplfeejfeioaagreatdoor", sum := "231a475ccf1b010763fe3a4308bbe04db5c6904e87b6f0b33296f3cdcc83200c", func := "loop.example/g00369/laws.FnExactOfferC", spec := "fnExactOfferC", inPlace := ["internal/bytealg.IndexByteString", "internal/bytealg.IndexString", "internal/bytealg.CountString"], unfollowed := true, recurses := true, named := ["internal/bytealg.MaxLen", "unicode/utf8.first", "unicode/utf8.acceptRanges"], apart := false, laid := [("unicode/utf8.acceptRanges", laid_unicode_utf8_acceptRanges), ("unicode/utf8.first", laid_unicode_utf8_first)], narrowed := true }
def FnExactOfferCUptoSaid : Prop := fnExactOfferCUptoRow.holds Tryz.pinned (OpenSpec.upto fnExactOfferCSpec)

/-- 'laws.FnExactAdoptC', WHERE WHAT IT READS IS OF BULK AT MOST 1048576: true; the input reads as it did. -/
def fnExactAdoptCUptoRow : OpenClaim := { program := "ytgjplfeejfeioaagreatdoor", sum := "231a475ccf1b010763fe3a4308bbe04db5c6904e87b6f0b33296f3cdcc83200c", func := "loop.example/g00369/laws.FnExactAdoptC", spec := "fnExactAdoptC", inPlace := ["internal/bytealg.IndexByteString", "internal/bytealg.IndexString", "internal/bytealg.CountString"], unfollowed := true, recurses := true, named := ["internal/bytealg.MaxLen", "unicode/utf8.first", "unicode/utf8.acceptRanges"], apart := false, laid := [("unicode/utf8.acceptRanges", laid_unicode_utf8_acceptRanges), ("unicode/utf8.first", laid_unicode_utf8_first)], narrowed := true }
def FnExactAdoptCUptoSaid : Prop := fnExactAdoptCUptoRow.holds Tryz.pinned (OpenSpec.upto fnExactAdoptCSpec)

/-- 'laws.FnExactDoneC', WHERE WHAT IT READS IS OF BULK AT MOST 1048576: true; the input reads as it did. -/
def fnExactDoneCUptoRow : OpenClaim := { program := "ytgjplfeejfeioaagreatdoor", sum := "231a475ccf1b010763fe3a4308bbe04db5c6904e87b6f0b33296f3cdcc83200c", func := "loop.example/g00369/laws.FnExactDoneC", spec := "fnExactDoneC", inPlace := ["internal/bytealg.IndexByteString", "internal/bytealg.IndexString", "internal/bytealg.CountString"], unfollowed := true, recurses := true, named := ["internal/bytealg.MaxLen", "unicode/utf8.first", "unicode/utf8.acceptRanges"], apart := false, laid := [("unicode/utf8.acceptRanges", laid_unicode_utf8_acceptRanges), ("unicode/utf8.first", laid_unicode_utf8_first)], narrowed := true }
def FnExactDoneCUptoSaid : Prop := fnExactDoneCUptoRow.holds Tryz.pinned (OpenSpec.upto fnExactDoneCSpec)

end Rows
end Go.Proofs.YtgjplfeejfeioaaGreatDoor
