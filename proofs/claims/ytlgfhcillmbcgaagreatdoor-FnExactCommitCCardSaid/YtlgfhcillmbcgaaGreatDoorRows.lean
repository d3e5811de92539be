/-
  NARROWER THAN 'FOR EVERY INPUT', by the rows' own cells (each row's printed sentence says how): FnExactWaitingC: laid · FnExactValuesC: laid · FnExactOfferC: laid · FnExactAdoptC: laid · FnExactDoneC: laid · FnExactForgeC: laid · FnExactCommitC: laid · FnExactNewC: laid.
  DERIVED. THE GIVEN ROWS OF THIS SEAT. 8 by the template 'for every input the law returns true; each argument reads behind the call as it read before'; 0 by the template 'total and deterministic' (their statements: YtlgfhcillmbcgaaGreatDoorTotals.lean).
  GIVEN WITH THE SEED: the statements are not yours to turn. If you find one false, say at which input.
  Laid BY PROGRAM, IN A SANDBOX (cutbox-rows.mjs): the forced cells as the released guide's own fill.sh prints them over the translation d74aa47242552a53… (all of the seat's roots in one cut). By AI agents, Wed Nov 11 2026. No macro, syntax, notation, axiom, sorry.
-/
import Derived.Test.YtlgfhcillmbcgaaGreatDoorChecked
import GoSem.PinnedTables
import GoSem.Claim
import GoSem.ClaimJoined
import GoSem.ClaimMapViews
import Derived.JoinedTies
import Derived.KernelRfl
namespace Go.Proofs.YtlgfhcillmbcgaaGreatDoor
/- THE CELL 'sum', in the pinned program and in every row, IS THE sha256 OF THE DUMP (.gsa) THAT YtlgfhcillmbcgaaGreatDoorProg.lean LOADS. Nothing in Lean hashes anything: it is a label: what it is worth is what the hold of that sum in a sandbox is worth. -/
noncomputable def Tryz.pinned : Pinned := { name := "ytlgfhcillmbcgaagreatdoor", sum := "d74aa47242552a533cbbf9f4e7ac71d716b114c3ec4ce4abaf486548eecad9b0", checked := Tryz.checked }
namespace Rows
def none {H : Type} : Left H := { results := [], args := [] }

/- WHAT THE LISTED PACKAGE-LEVEL VARIABLES READ AS WHEN THE CALL BEGINS. Each datum BY PROGRAM (the guide's laid-datum.mjs) off the statement by which the dump's own 'gosem.cut.vars' lays the variable. In a bare row this is a premise. The card (YtlgfhcillmbcgaaGreatDoorCards.lean) ties it to the program's text. -/
def laid_unicode_utf8_acceptRanges {H : Type} : DataW H := .agg [.agg [.lit (.int .u8 128), .lit (.int .u8 191)], .agg [.lit (.int .u8 160), .lit (.int .u8 191)], .agg [.lit (.int .u8 128), .lit (.int .u8 159)], .agg [.lit (.int .u8 144), .lit (.int .u8 191)], .agg [.lit (.int .u8 128), .lit (.int .u8 143)], .agg [.lit (.int .u8 0), .lit (.int .u8 0)], .agg [.lit (.int .u8 0), .lit (.int .u8 0)], .agg [.lit (.int .u8 0), .lit (.int .u8 0)], .agg [.lit (.int .u8 0), .lit (.int .u8 0)], .agg [.lit (.int .u8 0), .lit (.int .u8 0)], .agg [.lit (.int .u8 0), .lit (.int .u8 0)], .agg [.lit (.int .u8 0), .lit (.int .u8 0)], .agg [.lit (.int .u8 0), .lit (.int .u8 0)], .agg [.lit (.int .u8 0), .lit (.int .u8 0)], .agg [.lit (.int .u8 0), .lit (.int .u8 0)], .agg [.lit (.int .u8 0), .lit (.int .u8 0)]]
/-- One of Go's own tables, pinned by name: the form's constant. -/
def laid_unicode_utf8_first : DataW Unit := Go.Pinned.utf8First

/-- 'laws.FnExactWaitingC': WHATEVER THE INPUT: true; the input reads as it did. -/
def fnExactWaitingCSpec : ChangeSpec := { name := "fnExactWaitingC", fn := fun _ => fun
  | [d] => { results := [.lit (.bool true)], args := [d] }
  | _ => none }
def fnExactWaitingCRow : OpenClaim := { program := "ytlgfhcillmbcgaagreatdoor", sum := "d74aa47242552a533cbbf9f4e7ac71d716b114c3ec4ce4abaf486548eecad9b0", func := "loop.example/g00369/laws.FnExactWaitingC", spec := "fnExactWaitingC", inPlace := ["internal/bytealg.IndexByteString", "internal/bytealg.IndexString", "internal/bytealg.CountString"], unfollowed := true, recurses := true, named := ["internal/bytealg.MaxLen", "unicode/utf8.first", "unicode/utf8.acceptRanges"], apart := false, laid := [("unicode/utf8.acceptRanges", laid_unicode_utf8_acceptRanges), ("unicode/utf8.first", laid_unicode_utf8_first)] }
def FnExactWaitingCSaid : Prop := fnExactWaitingCRow.holds Tryz.pinned (OpenSpec.ofChange fnExactWaitingCSpec)

/-- ITS FALSE NEIGHBOUR: 'it returns false'. Refute it at one input. -/
def fnExactWaitingCWrong : ChangeSpec := { name := "fnExactWaitingC", fn := fun _ => fun
  | [d] => { results := [.lit (.bool false)], args := [d] }
  | _ => none }
def FnExactWaitingCWrongFalsely : Prop := fnExactWaitingCRow.holds Tryz.pinned (OpenSpec.ofChange fnExactWaitingCWrong)

/-- 'laws.FnExactValuesC': WHATEVER THE INPUT: true; the input reads as it did. -/
def fnExactValuesCSpec : ChangeSpec := { name := "fnExactValuesC", fn := fun _ => fun
  | [d1, d2] => { results := [.lit (.bool true)], args := [d1, d2] }
  | _ => none }
def fnExactValuesCRow : OpenClaim := { program := "ytlgfhcillmbcgaagreatdoor", sum := "d74aa47242552a533cbbf9f4e7ac71d716b114c3ec4ce4abaf486548eecad9b0", func := "loop.example/g00369/laws.FnExactValuesC", spec := "fnExactValuesC", inPlace := ["internal/bytealg.IndexByteString", "internal/bytealg.IndexString", "internal/bytealg.CountString"], unfollowed := true, recurses := true, named := ["internal/bytealg.MaxLen", "unicode/utf8.first", "unicode/utf8.acceptRanges"], apart := false, laid := [("unicode/utf8.acceptRanges", laid_unicode_utf8_acceptRanges), ("unicode/utf8.first", laid_unicode_utf8_first)] }
def FnExactValuesCSaid : Prop := fnExactValuesCRow.holds Tryz.pinned (OpenSpec.ofChange fnExactValuesCSpec)

/-- ITS FALSE NEIGHBOUR: 'it returns false'. Refute it at one input. -/
def fnExactValuesCWrong : ChangeSpec := { name := "fnExactValuesC", fn := fun _ => fun
  | [d1, d2] => { results := [.lit (.bool false)], args := [d1, d2] }
  | _ => none }
def FnExactValuesCWrongFalsely : Prop := fnExactValuesCRow.holds Tryz.pinned (OpenSpec.ofChange fnExactValuesCWrong)

/-- 'laws.FnExactOfferC': WHATEVER THE INPUT: true; the input reads as it did. -/
def fnExactOfferCSpec : ChangeSpec := { name := "fnExactOfferC", fn := fun _ => fun
  | [d1, d2] => { results := [.lit (.bool true)], args := [d1, d2] }
  | _ => none }
def fnExactOfferCRow : OpenClaim := { program := "ytlgfhcillmbcgaagreatdoor", sum := "d74aa47242552a533cbbf9f4e7ac71d716b114c3ec4ce4abaf486548eecad9b0", func := "loop.example/g00369/laws.FnExactOfferC", spec := "fnExactOfferC", inPlace := ["internal/bytealg.IndexByteString", "internal/bytealg.IndexString", "internal/bytealg.CountString"], unfollowed := true, recurses := true, named := ["internal/bytealg.MaxLen", "unicode/utf8.first", "unicode/utf8.acceptRanges"], apart := false, laid := [("unicode/utf8.acceptRanges", laid_unicode_utf8_acceptRanges), ("unicode/utf8.first", laid_unicode_utf8_first)] }
def FnExactOfferCSaid : Prop := fnExactOfferCRow.holds Tryz.pinned (OpenSpec.ofChange fnExactOfferCSpec)

/-- ITS FALSE NEIGHBOUR: 'it returns false'. Refute it at one input. -/
def fnExactOfferCWrong : ChangeSpec := { name := "fnExactOfferC", fn := fun _ => fun
  | [d1, d2] => { results := [.lit (.bool false)], args := [d1, d2] }
  | _ => none }
def FnExactOfferCWrongFalsely : Prop := fnExactOfferCRow.holds Tryz.pinned (OpenSpec.ofChange fnExactOfferCWrong)

/-- 'laws.FnExactAdoptC': WHATEVER THE INPUT: true; the input reads as it did. -/
def fnExactAdoptCSpec : ChangeSpec := { name := "fnExactAdoptC", fn := fun _ => fun
  | [d1, d2, d3] => { results := [.lit (.bool true)], args := [d1, d2, d3] }
  | _ => none }
def fnExactAdoptCRow : OpenClaim := { program := "ytlgfhcillmbcgaagreatdoor", sum := "d74aa47242552a533cbbf9f4e7ac71d716b114c3ec4ce4abaf486548eecad9b0", func := "loop.example/g00369/laws.FnExactAdoptC", spec := "fnExactAdoptC", inPlace := ["internal/bytealg.IndexByteString", "internal/bytealg.IndexString", "internal/bytealg.CountString"], unfollowed := true, recurses := true, named := ["internal/bytealg.MaxLen", "unicode/utf8.first", "unicode/utf8.acceptRanges"], apart := false, laid := [("unicode/utf8.acceptRanges", laid_unicode_utf8_acceptRanges), ("unicode/utf8.first", laid_unicode_utf8_first)] }
def FnExactAdoptCSaid : Prop := fnExactAdoptCRow.holds Tryz.pinned (OpenSpec.ofChange fnExactAdoptCSpec)

/-- ITS FALSE NEIGHBOUR: 'it returns false'. Refute it at one input. -/
def fnExactAdoptCWrong : ChangeSpec := { name := "fnExactAdoptC", fn := fun _ => fun
  | [d1, d2, d3] => { results := [.lit (.bool false)], args := [d1, d2, d3] }
  | _ => none }
def FnExactAdoptCWrongFalsely : Prop := fnExactAdoptCRow.holds Tryz.pinned (OpenSpec.ofChange fnExactAdoptCWrong)

/-- 'laws.FnExactDoneC': WHATEVER THE INPUT: true; the input reads as it did. -/
def fnExactDoneCSpec : ChangeSpec := { name := "fnExactDoneC", fn := fun _ => fun
  | [d1, d2] => { results := [.lit (.bool true)], args := [d1, d2] }
  | _ => none }
def fnExactDoneCRow : OpenClaim := { program := "ytlgfhcillmbcgaagreatdoor", sum := "d74aa47242552a533cbbf9f4e7ac71d716b114c3ec4ce4abaf486548eecad9b0", func := "loop.example/g00369/laws.FnExactDoneC", spec := "fnExactDoneC", inPlace := ["internal/bytealg.IndexByteString", "internal/bytealg.IndexString", "internal/bytealg.CountString"], unfollowed := true, recurses := true, named := ["internal/bytealg.MaxLen", "unicode/utf8.first", "unicode/utf8.acceptRanges"], apart := false, laid := [("unicode/utf8.acceptRanges", laid_unicode_utf8_acceptRanges), ("unicode/utf8.first", laid_unicode_utf8_first)] }
def FnExactDoneCSaid : Prop := fnExactDoneCRow.holds Tryz.pinned (OpenSpec.ofChange fnExactDoneCSpec)

/-- ITS FALSE NEIGHBOUR: 'it returns false'. Refute it at one input. -/
def fnExactDoneCWrong : ChangeSpec := { name := "fnExactDoneC", fn := fun _ => fun
  | [d1, d2] => { results := [.lit (.bool false)], args := [d1, d2] }
  | _ => none }
def FnExactDoneCWrongFalsely : Prop := fnExactDoneCRow.holds Tryz.pinned (OpenSpec.ofChange fnExactDoneCWrong)

/-- 'laws.FnExactForgeC': WHATEVER THE INPUT: true; the input reads as it did. -/
def fnExactForgeCSpec : ChangeSpec := { name := "fnExactForgeC", fn := fun _ => fun
  | [d1, d2] => { results := [.lit (.bool true)], args := [d1, d2] }
  | _ => none }
def fnExactForgeCRow : OpenClaim := { program := "ytlgfhcillmbcgaagreatdoor", sum := "d74aa47242552a533cbbf9f4e7ac71d716b114c3ec4ce4abaf486548eecad9b0", func := "loop.example/g00369/laws.FnExactForgeC", spec := "fnExactForgeC", inPlace := ["internal/bytealg.IndexByteString", "internal/bytealg.IndexString", "internal/bytealg.CountString"], unfollowed := true, recurses := true, named := ["internal/bytealg.MaxLen", "unicode/utf8.first", "unicode/utf8.acceptRanges"], apart := false, laid := [("unicode/utf8.acceptRanges", laid_unicode_utf8_acceptRanges), ("unicode/utf8.first", laid_unicode_utf8_first)] }
def FnExactForgeCSaid : Prop := fnExactForgeCRow.holds Tryz.pinned (OpenSpec.ofChange fnExactForgeCSpec)

/-- ITS FALSE NEIGHBOUR: 'it returns false'. Refute it at one input. -/
def fnExactForgeCWrong : ChangeSpec := { name := "fnExactForgeC", fn := fun _ => fun
  | [d1, d2] => { results := [.lit (.bool false)], args := [d1, d2] }
  | _ => none }
def FnExactForgeCWrongFalsely : Prop := fnExactForgeCRow.holds Tryz.pinned (OpenSpec.ofChange fnExactForgeCWrong)

/-- 'laws.FnExactCommitC': WHATEVER THE INPUT: true; the input reads as it did. -/
def fnExactCommitCSpec : ChangeSpec := { name := "fnExactCommitC", fn := fun _ => fun
  | [d1, d2, d3, d4] => { results := [.lit (.bool true)], args := [d1, d2, d3, d4] }
  | _ => none }
def fnExactCommitCRow : OpenClaim := { program := "ytlgfhcillmbcgaagreatdoor", sum := "d74aa47242552a533cbbf9f4e7ac71d716b114c3ec4ce4abaf486548eecad9b0", func := "loop.example/g00369/laws.FnExactCommitC", spec := "fnExactCommitC", inPlace := ["internal/bytealg.IndexByteString", "internal/bytealg.IndexString", "internal/bytealg.CountString"], unfollowed := true, recurses := true, named := ["internal/bytealg.MaxLen", "unicode/utf8.first", "unicode/utf8.acceptRanges"], apart := false, laid := [("unicode/utf8.acceptRanges", laid_unicode_utf8_acceptRanges), ("unicode/utf8.first", laid_unicode_utf8_first)] }
def FnExactCommitCSaid : Prop := fnExactCommitCRow.holds Tryz.pinned (OpenSpec.ofChange fnExactCommitCSpec)

/-- ITS FALSE NEIGHBOUR: 'it returns false'. Refute it at one input. -/
def fnExactCommitCWrong : ChangeSpec := { name := "fnExactCommitC", fn := fun _ => fun
  | [d1, d2, d3, d4] => { results := [.lit (.bool false)], args := [d1, d2, d3, d4] }
  | _ => none }
def FnExactCommitCWrongFalsely : Prop := fnExactCommitCRow.holds Tryz.pinned (OpenSpec.ofChange fnExactCommitCWrong)

/-- 'laws.FnExactNewC': WHATEVER THE INPUT: true; the input reads as it did. -/
def fnExactNewCSpec : ChangeSpec := { name := "fnExactNewC", fn := fun _ => fun
  | [d1, d2] => { results := [.lit (.bool true)], args := [d1, d2] }
  | _ => none }
def fnExactNewCRow : OpenClaim := { program := "ytlgfhcillmbcgaagreatdoor", sum := "d74aa47242552a533cbbf9f4e7ac71d716b114c3ec4ce4abaf486548eecad9b0", func := "loop.example/g00369/laws.FnExactNewC", spec := "fnExactNewC", inPlace := ["internal/bytealg.IndexByteString", "internal/bytealg.IndexString", "internal/bytealg.CountString"], unfollowed := true, recurses := true, named := ["internal/bytealg.MaxLen", "unicode/utf8.first", "unicode/utf8.acceptRanges"], apart := false, laid := [("unicode/utf8.acceptRanges", laid_unicode_utf8_acceptRanges), ("unicode/utf8.first", laid_unicode_utf8_first)] }
def FnExactNewCSaid : Prop := fnExactNewCRow.holds Tryz.pinned (OpenSpec.ofChange fnExactNewCSpec)

/-- ITS FALSE NEIGHBOUR: 'it returns false'. Refute it at one input. -/
def fnExactNewCWrong : ChangeSpec := { name := "fnExactNewC", fn := fun _ => fun
  | [d1, d2] => { results := [.lit (.bool false)], args := [d1, d2] }
  | _ => none }
def FnExactNewCWrongFalsely : Prop := fnExactNewCRow.holds Tryz.pinned (OpenSpec.ofChange fnExactNewCWrong)

/- THE SECOND FORM. 'bulk': how many values and letters a reading holds, each counted each time it is reached (what is shared counts as often as it is met; a slice's spare places count too). A statement '..UptoSaid' is the law's where the arguments, and the package variables that the reading takes, are together of bulk at most 1048576: NARROWER than '..Said'. Prove '..Said' where nothing that the law and all that it calls make is longer than what came in: it says more and counts as full. Else prove '..UptoSaid'. A law counts once. -/
mutual
def uptoBulk {H : Type} : DataW H → Nat
  | .lit (.string bytes) => bytes.length + 1
  | .lit _ => 1
  | .nil => 1
  | .ptr d => uptoBulk d + 1
  | .slice elems spare => uptoBulkAll elems + uptoBulkAll spare + 1
  | .agg parts => uptoBulkAll parts + 1
  | .iface _ d => uptoBulk d + 1
  | .map entries => uptoBulkEntries entries + 1
  | .held _ => 1
def uptoBulkAll {H : Type} : List (DataW H) → Nat
  | [] => 0
  | d :: r => uptoBulk d + uptoBulkAll r
def uptoBulkEntries {H : Type} : List (Lit × DataW H) → Nat
  | [] => 0
  | x :: r => uptoBulkEntry x + uptoBulkEntries r
def uptoBulkEntry {H : Type} : Lit × DataW H → Nat
  | (.string bytes, d) => bytes.length + uptoBulk d + 1
  | (_, d) => uptoBulk d + 1
 end
def uptoSmall : (H : Type) → List (DataW H) → Bool := fun _ ds => decide (uptoBulkAll ds ≤ 1048576)
def OpenSpec.upto (s : _root_.Go.ChangeSpec) : _root_.Go.OpenSpec := { _root_.Go.OpenSpec.ofChange s with cond := some uptoSmall }

/-- 'laws.FnExactWaitingC', WHERE WHAT IT READS IS OF BULK AT MOST 1048576: true; the input reads as it did. -/
def fnExactWaitingCUptoRow : OpenClaim := { program := "ytlgfhcillmbcgaagreatdoor", sum := "d74aa47242552a533cbbf9f4e7ac71d716b114c3ec4ce4abaf486548eecad9b0", func := "loop.example/g00369/laws.FnExactWaitingC", spec := "fnExactWaitingC", inPlace := ["internal/bytealg.IndexByteString", "internal/bytealg.IndexString", "internal/bytealg.CountString"], unfollowed := true, recurses := true, named := ["internal/bytealg.MaxLen", "unicode/utf8.first", "unicode/utf8.acceptRanges"], apart := false, laid := [("unicode/utf8.acceptRanges", laid_unicode_utf8_acceptRanges), ("unicode/utf8.first", laid_unicode_utf8_first)], narrowed := true }
def FnExactWaitingCUptoSaid : Prop := fnExactWaitingCUptoRow.holds Tryz.pinned (OpenSpec.upto fnExactWaitingCSpec)

/-- 'laws.FnExactValuesC', WHERE WHAT IT READS IS OF BULK AT MOST 1048576: true; the input reads as it did. -/
def fnExactValuesCUptoRow : OpenClaim := { program := "ytlgfhcillmbcgaagreatdoor", sum := "d74aa47242552a533cbbf9f4e7ac71d716b114c3ec4ce4abaf486548eecad9b0", func := "loop.example/g00369/laws.FnExactValuesC", spec := "fnExactValuesC", inPlace := ["internal/bytealg.IndexByteString", "internal/bytealg.IndexString", "internal/bytealg.CountString"], unfollowed := true, recurses := true, named := ["internal/bytealg.MaxLen", "unicode/utf8.first", "unicode/utf8.acceptRanges"], apart := false, laid := [("unicode/utf8.acceptRanges", laid_unicode_utf8_acceptRanges), ("unicode/utf8.first", laid_unicode_utf8_first)], narrowed := true }
def FnExactValuesCUptoSaid : Prop := fnExactValuesCUptoRow.holds Tryz.pinned (OpenSpec.upto fnExactValuesCSpec)

/-- 'laws.FnExactOfferC', WHERE WHAT IT READS IS OF BULK AT MOST 1048576: true; the input reads as it did. -/
def fnExactOfferCUptoRow : OpenClaim := { program := "ytlgfhcillmbcgaagreatdoor", sum := "d74aa47242552a533cbbf9f4e7ac71d716b114c3ec4ce4abaf486548eecad9b0", func := "loop.example/g00369/laws.FnExactOfferC", spec := "fnExactOfferC", inPlace := ["internal/bytealg.IndexByteString", "internal/bytealg.IndexString", "internal/bytealg.CountString"], unfollowed := true, recurses := true, named := ["internal/bytealg.MaxLen", "unicode/utf8.first", "unicode/utf8.acceptRanges"], apart := false, laid := [("unicode/utf8.acceptRanges", laid_unicode_utf8_acceptRanges), ("unicode/utf8.first", laid_unicode_utf8_first)], narrowed := true }
def FnExactOfferCUptoSaid : Prop := fnExactOfferCUptoRow.holds Tryz.pinned (OpenSpec.upto fnExactOfferCSpec)

/-- 'laws.FnExactAdoptC', WHERE WHAT IT READS IS OF BULK AT MOST 1048576: true; the input reads as it did. -/
def fnExactAdoptCUptoRow : OpenClaim := { program := "ytlgfhcillmbcgaagreatdoor", sum := "d74aa47242552a533cbbf9f4e7ac71d716b114c3ec4ce4abaf486548eecad9b0", func := "loop.example/g00369/laws.FnExactAdoptC", spec := "fnExactAdoptC", inPlace := ["internal/bytealg.IndexByteString", "internal/bytealg.IndexString", "internal/bytealg.CountString"], unfollowed := true, recurses := true, named := ["internal/bytealg.MaxLen", "unicode/utf8.first", "unicode/utf8.acceptRanges"], apart := false, laid := [("unicode/utf8.acceptRanges", laid_unicode_utf8_acceptRanges), ("unicode/utf8.first", laid_unicode_utf8_first)], narrowed := true }
def FnExactAdoptCUptoSaid : Prop := fnExactAdoptCUptoRow.holds Tryz.pinned (OpenSpec.upto fnExactAdoptCSpec)

/-- 'laws.FnExactDoneC', WHERE WHAT IT READS IS OF BULK AT MOST 1048576: true; the input reads as it did. -/
def fnExactDoneCUptoRow : OpenClaim := { program := "ytlgfhcillmbcgaagreatdoor", sum := "d74aa47242552a533cbbf9f4e7ac71d716b114c3ec4ce4abaf486548eecad9b0", func := "loop.example/g00369/laws.FnExactDoneC", spec := "fnExactDoneC", inPlace := ["internal/bytealg.IndexByteString", "internal/bytealg.IndexString", "internal/bytealg.CountString"], unfollowed := true, recurses := true, named := ["internal/bytealg.MaxLen", "unicode/utf8.first", "unicode/utf8.acceptRanges"], apart := false, laid := [("unicode/utf8.acceptRanges", laid_unicode_utf8_acceptRanges), ("unicode/utf8.first", laid_unicode_utf8_first)], narrowed := true }
def FnExactDoneCUptoSaid : Prop := fnExactDoneCUptoRow.holds Tryz.pinned (OpenSpec.upto fnExactDoneCSpec)

/-- 'laws.FnExactForgeC', WHERE WHAT IT READS IS OF BULK AT MOST 1048576: true; the input reads as it did. -/
def fnExactForgeCUptoRow : OpenClaim := { program := "ytlgfhcillmbcgaagreatdoor", sum := "d74aa47242552a533cbbf9f4e7ac71d716b114c3ec4ce4abaf486548eecad9b0", func := "loop.example/g00369/laws.FnExactForgeC", spec := "fnExactForgeC", inPlace := ["internal/bytealg.IndexByteString", "internal/bytealg.IndexString", "internal/bytealg.CountString"], unfollowed := true, recurses := true, named := ["internal/bytealg.MaxLen", "unicode/utf8.first", "unicode/utf8.acceptRanges"], apart := false, laid := [("unicode/utf8.acceptRanges", laid_unicode_utf8_acceptRanges), ("unicode/utf8.first", laid_unicode_utf8_first)], narrowed := true }
def FnExactForgeCUptoSaid : Prop := fnExactForgeCUptoRow.holds Tryz.pinned (OpenSpec.upto fnExactForgeCSpec)

/-- 'laws.FnExactCommitC', WHERE WHAT IT READS IS OF BULK AT MOST 1048576: true; the input reads as it did. -/
def fnExactCommitCUptoRow : OpenClaim := { program := "ytlgfhcillmbcgaagreatdoor", sum := "d74aa47242552a533cbbf9f4e7ac71d716b114c3ec4ce4abaf486548eecad9b0", func := "loop.example/g00369/laws.FnExactCommitC", spec := "fnExactCommitC", inPlace := ["internal/bytealg.IndexByteString", "internal/bytealg.IndexString", "internal/bytealg.CountString"], unfollowed := true, recurses := true, named := ["internal/bytealg.MaxLen", "unicode/utf8.first", "unicode/utf8.acceptRanges"], apart := false, laid := [("unicode/utf8.acceptRanges", laid_unicode_utf8_acceptRanges), ("unicode/utf8.first", laid_unicode_utf8_first)], narrowed := true }
def FnExactCommitCUptoSaid : Prop := fnExactCommitCUptoRow.holds Tryz.pinned (OpenSpec.upto fnExactCommitCSpec)

/-- 'laws.FnExactNewC', WHERE WHAT IT READS IS OF BULK AT MOST 1048576: true; the input reads as it did. -/
def fnExactNewCUptoRow : OpenClaim := { program := "ytlgfhcillmbcgaagreatdoor", sum := "d74aa47242552a533cbbf9f4e7ac71d716b114c3ec4ce4abaf486548eecad9b0", func := "loop.example/g00369/laws.FnExactNewC", spec := "fnExactNewC", inPlace := ["internal/bytealg.IndexByteString", "internal/bytealg.IndexString", "internal/bytealg.CountString"], unfollowed := true, recurses := true, named := ["internal/bytealg.MaxLen", "unicode/utf8.first", "unicode/utf8.acceptRanges"], apart := false, laid := [("unicode/utf8.acceptRanges", laid_unicode_utf8_acceptRanges), ("unicode/utf8.first", laid_unicode_utf8_first)], narrowed := true }
def FnExactNewCUptoSaid : Prop := fnExactNewCUptoRow.holds Tryz.pinned (OpenSpec.upto fnExactNewCSpec)

end Rows
end Go.Proofs.YtlgfhcillmbcgaaGreatDoor
