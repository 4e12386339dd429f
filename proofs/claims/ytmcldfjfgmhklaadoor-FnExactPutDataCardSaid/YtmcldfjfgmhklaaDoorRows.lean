/-
  NARROWER THAN 'FOR EVERY INPUT', by the rows' own cells (each row's printed sentence says how): FnExactLabels: laid · FnExactNameOk: laid · FnExactLessName: laid · FnExactQuestOk: laid · FnExactUp: laid · FnExactRecordOk: laid · FnExactLessRecord: laid · FnExactPutPlain: laid · FnExactAbove: laid · FnExactPutData: laid.
  DERIVED. THE GIVEN ROWS OF THIS SEAT. 10 by the template 'for every input the law returns true; each argument reads behind the call as it read before'; 0 by the template 'total and deterministic' (their statements: YtmcldfjfgmhklaaDoorTotals.lean).
  GIVEN WITH THE SEED: the statements are not yours to turn. If you find one false, say at which input.
  Laid BY PROGRAM, IN A SANDBOX (cutbox-rows.mjs): the forced cells as the released guide's own fill.sh prints them over the translation be5b45165e7b0fe0… (all of the seat's roots in one cut). By AI agents, Wed Nov 11 2026. No macro, syntax, notation, axiom, sorry.
-/
import Derived.Test.YtmcldfjfgmhklaaDoorChecked
import GoSem.PinnedTables
import GoSem.Claim
import GoSem.ClaimJoined
import GoSem.ClaimMapViews
import Derived.JoinedTies
import Derived.KernelRfl
namespace Go.Proofs.YtmcldfjfgmhklaaDoor
/- THE CELL 'sum', in the pinned program and in every row, IS THE sha256 OF THE DUMP (.gsa) THAT YtmcldfjfgmhklaaDoorProg.lean LOADS. Nothing in Lean hashes anything: it is a label: what it is worth is what the hold of that sum in a sandbox is worth. -/
noncomputable def Tryd.pinned : Pinned := { name := "ytmcldfjfgmhklaadoor", sum := "be5b45165e7b0fe00f6a0bc0752c6cca453377898fa779fbb4edb6e2730da78a", checked := Tryd.checked }
namespace Rows
def none {H : Type} : Left H := { results := [], args := [] }

/- WHAT THE LISTED PACKAGE-LEVEL VARIABLES READ AS WHEN THE CALL BEGINS. Each datum BY PROGRAM (the guide's laid-datum.mjs) off the statement by which the dump's own 'gosem.cut.vars' lays the variable. In a bare row this is a premise. The card (YtmcldfjfgmhklaaDoorCards.lean) ties it to the program's text. -/
def laid_unicode_utf8_acceptRanges {H : Type} : DataW H := .agg [.agg [.lit (.int .u8 128), .lit (.int .u8 191)], .agg [.lit (.int .u8 160), .lit (.int .u8 191)], .agg [.lit (.int .u8 128), .lit (.int .u8 159)], .agg [.lit (.int .u8 144), .lit (.int .u8 191)], .agg [.lit (.int .u8 128), .lit (.int .u8 143)], .agg [.lit (.int .u8 0), .lit (.int .u8 0)], .agg [.lit (.int .u8 0), .lit (.int .u8 0)], .agg [.lit (.int .u8 0), .lit (.int .u8 0)], .agg [.lit (.int .u8 0), .lit (.int .u8 0)], .agg [.lit (.int .u8 0), .lit (.int .u8 0)], .agg [.lit (.int .u8 0), .lit (.int .u8 0)], .agg [.lit (.int .u8 0), .lit (.int .u8 0)], .agg [.lit (.int .u8 0), .lit (.int .u8 0)], .agg [.lit (.int .u8 0), .lit (.int .u8 0)], .agg [.lit (.int .u8 0), .lit (.int .u8 0)], .agg [.lit (.int .u8 0), .lit (.int .u8 0)]]
/-- One of Go's own tables, pinned by name: the form's constant. -/
def laid_unicode_utf8_first : DataW Unit := Go.Pinned.utf8First

/-- 'laws.FnExactLabels': WHATEVER THE INPUT: true; the input reads as it did. -/
def fnExactLabelsSpec : ChangeSpec := { name := "fnExactLabels", fn := fun _ => fun
  | [d] => { results := [.lit (.bool true)], args := [d] }
  | _ => none }
def fnExactLabelsRow : OpenClaim := { program := "ytmcldfjfgmhklaadoor", sum := "be5b45165e7b0fe00f6a0bc0752c6cca453377898fa779fbb4edb6e2730da78a", func := "loop.example/g00497/laws.FnExactLabels", spec := "fnExactLabels", inPlace := ["internal/bytealg.CountString", "internal/bytealg.IndexByteString", "internal/bytealg.IndexString"], named := ["unicode/utf8.first", "unicode/utf8.acceptRanges", "internal/bytealg.MaxLen"], apart := false, laid := [("unicode/utf8.acceptRanges", laid_unicode_utf8_acceptRanges), ("unicode/utf8.first", laid_unicode_utf8_first)] }
def FnExactLabelsSaid : Prop := fnExactLabelsRow.holds Tryd.pinned (OpenSpec.ofChange fnExactLabelsSpec)

/-- ITS FALSE NEIGHBOUR: 'it returns false'. Refute it at one input. -/
def fnExactLabelsWrong : ChangeSpec := { name := "fnExactLabels", fn := fun _ => fun
  | [d] => { results := [.lit (.bool false)], args := [d] }
  | _ => none }
def FnExactLabelsWrongFalsely : Prop := fnExactLabelsRow.holds Tryd.pinned (OpenSpec.ofChange fnExactLabelsWrong)

/-- 'laws.FnExactNameOk': WHATEVER THE INPUT: true; the input reads as it did. -/
def fnExactNameOkSpec : ChangeSpec := { name := "fnExactNameOk", fn := fun _ => fun
  | [d] => { results := [.lit (.bool true)], args := [d] }
  | _ => none }
def fnExactNameOkRow : OpenClaim := { program := "ytmcldfjfgmhklaadoor", sum := "be5b45165e7b0fe00f6a0bc0752c6cca453377898fa779fbb4edb6e2730da78a", func := "loop.example/g00497/laws.FnExactNameOk", spec := "fnExactNameOk", inPlace := ["internal/bytealg.CountString", "internal/bytealg.IndexByteString", "internal/bytealg.IndexString"], unfollowed := true, recurses := true, named := ["unicode/utf8.first", "unicode/utf8.acceptRanges", "internal/bytealg.MaxLen"], apart := false, laid := [("unicode/utf8.acceptRanges", laid_unicode_utf8_acceptRanges), ("unicode/utf8.first", laid_unicode_utf8_first)] }
def FnExactNameOkSaid : Prop := fnExactNameOkRow.holds Tryd.pinned (OpenSpec.ofChange fnExactNameOkSpec)

/-- ITS FALSE NEIGHBOUR: 'it returns false'. Refute it at one input. -/
def fnExactNameOkWrong : ChangeSpec := { name := "fnExactNameOk", fn := fun _ => fun
  | [d] => { results := [.lit (.bool false)], args := [d] }
  | _ => none }
def FnExactNameOkWrongFalsely : Prop := fnExactNameOkRow.holds Tryd.pinned (OpenSpec.ofChange fnExactNameOkWrong)

/-- 'laws.FnExactLessName': WHATEVER THE INPUT: true; the input reads as it did. -/
def fnExactLessNameSpec : ChangeSpec := { name := "fnExactLessName", fn := fun _ => fun
  | [d1, d2] => { results := [.lit (.bool true)], args := [d1, d2] }
  | _ => none }
def fnExactLessNameRow : OpenClaim := { program := "ytmcldfjfgmhklaadoor", sum := "be5b45165e7b0fe00f6a0bc0752c6cca453377898fa779fbb4edb6e2730da78a", func := "loop.example/g00497/laws.FnExactLessName", spec := "fnExactLessName", inPlace := ["internal/bytealg.CountString", "internal/bytealg.IndexByteString", "internal/bytealg.IndexString"], named := ["unicode/utf8.first", "unicode/utf8.acceptRanges", "internal/bytealg.MaxLen"], apart := false, laid := [("unicode/utf8.acceptRanges", laid_unicode_utf8_acceptRanges), ("unicode/utf8.first", laid_unicode_utf8_first)] }
def FnExactLessNameSaid : Prop := fnExactLessNameRow.holds Tryd.pinned (OpenSpec.ofChange fnExactLessNameSpec)

/-- ITS FALSE NEIGHBOUR: 'it returns false'. Refute it at one input. -/
def fnExactLessNameWrong : ChangeSpec := { name := "fnExactLessName", fn := fun _ => fun
  | [d1, d2] => { results := [.lit (.bool false)], args := [d1, d2] }
  | _ => none }
def FnExactLessNameWrongFalsely : Prop := fnExactLessNameRow.holds Tryd.pinned (OpenSpec.ofChange fnExactLessNameWrong)

/-- 'laws.FnExactQuestOk': WHATEVER THE INPUT: true; the input reads as it did. -/
def fnExactQuestOkSpec : ChangeSpec := { name := "fnExactQuestOk", fn := fun _ => fun
  | [d] => { results := [.lit (.bool true)], args := [d] }
  | _ => none }
def fnExactQuestOkRow : OpenClaim := { program := "ytmcldfjfgmhklaadoor", sum := "be5b45165e7b0fe00f6a0bc0752c6cca453377898fa779fbb4edb6e2730da78a", func := "loop.example/g00497/laws.FnExactQuestOk", spec := "fnExactQuestOk", inPlace := ["internal/bytealg.CountString", "internal/bytealg.IndexByteString", "internal/bytealg.IndexString"], unfollowed := true, recurses := true, named := ["unicode/utf8.first", "unicode/utf8.acceptRanges", "internal/bytealg.MaxLen"], apart := false, laid := [("unicode/utf8.acceptRanges", laid_unicode_utf8_acceptRanges), ("unicode/utf8.first", laid_unicode_utf8_first)] }
def FnExactQuestOkSaid : Prop := fnExactQuestOkRow.holds Tryd.pinned (OpenSpec.ofChange fnExactQuestOkSpec)

/-- ITS FALSE NEIGHBOUR: 'it returns false'. Refute it at one input. -/
def fnExactQuestOkWrong : ChangeSpec := { name := "fnExactQuestOk", fn := fun _ => fun
  | [d] => { results := [.lit (.bool false)], args := [d] }
  | _ => none }
def FnExactQuestOkWrongFalsely : Prop := fnExactQuestOkRow.holds Tryd.pinned (OpenSpec.ofChange fnExactQuestOkWrong)

/-- 'laws.FnExactUp': WHATEVER THE INPUT: true; the input reads as it did. -/
def fnExactUpSpec : ChangeSpec := { name := "fnExactUp", fn := fun _ => fun
  | [d] => { results := [.lit (.bool true)], args := [d] }
  | _ => none }
def fnExactUpRow : OpenClaim := { program := "ytmcldfjfgmhklaadoor", sum := "be5b45165e7b0fe00f6a0bc0752c6cca453377898fa779fbb4edb6e2730da78a", func := "loop.example/g00497/laws.FnExactUp", spec := "fnExactUp", inPlace := ["internal/bytealg.CountString", "internal/bytealg.IndexByteString", "internal/bytealg.IndexString", "internal/abi.NoEscape", "internal/bytealg.MakeNoZero"], named := ["unicode/utf8.first", "unicode/utf8.acceptRanges", "internal/bytealg.MaxLen"], apart := false, laid := [("unicode/utf8.acceptRanges", laid_unicode_utf8_acceptRanges), ("unicode/utf8.first", laid_unicode_utf8_first)] }
def FnExactUpSaid : Prop := fnExactUpRow.holds Tryd.pinned (OpenSpec.ofChange fnExactUpSpec)

/-- ITS FALSE NEIGHBOUR: 'it returns false'. Refute it at one input. -/
def fnExactUpWrong : ChangeSpec := { name := "fnExactUp", fn := fun _ => fun
  | [d] => { results := [.lit (.bool false)], args := [d] }
  | _ => none }
def FnExactUpWrongFalsely : Prop := fnExactUpRow.holds Tryd.pinned (OpenSpec.ofChange fnExactUpWrong)

/-- 'laws.FnExactRecordOk': WHATEVER THE INPUT: true; the input reads as it did. -/
def fnExactRecordOkSpec : ChangeSpec := { name := "fnExactRecordOk", fn := fun _ => fun
  | [d] => { results := [.lit (.bool true)], args := [d] }
  | _ => none }
def fnExactRecordOkRow : OpenClaim := { program := "ytmcldfjfgmhklaadoor", sum := "be5b45165e7b0fe00f6a0bc0752c6cca453377898fa779fbb4edb6e2730da78a", func := "loop.example/g00497/laws.FnExactRecordOk", spec := "fnExactRecordOk", inPlace := ["internal/bytealg.CountString", "internal/bytealg.IndexByteString", "internal/bytealg.IndexString"], unfollowed := true, recurses := true, named := ["unicode/utf8.first", "unicode/utf8.acceptRanges", "internal/bytealg.MaxLen"], apart := false, laid := [("unicode/utf8.acceptRanges", laid_unicode_utf8_acceptRanges), ("unicode/utf8.first", laid_unicode_utf8_first)] }
def FnExactRecordOkSaid : Prop := fnExactRecordOkRow.holds Tryd.pinned (OpenSpec.ofChange fnExactRecordOkSpec)

/-- ITS FALSE NEIGHBOUR: 'it returns false'. Refute it at one input. -/
def fnExactRecordOkWrong : ChangeSpec := { name := "fnExactRecordOk", fn := fun _ => fun
  | [d] => { results := [.lit (.bool false)], args := [d] }
  | _ => none }
def FnExactRecordOkWrongFalsely : Prop := fnExactRecordOkRow.holds Tryd.pinned (OpenSpec.ofChange fnExactRecordOkWrong)

/-- 'laws.FnExactLessRecord': WHATEVER THE INPUT: true; the input reads as it did. -/
def fnExactLessRecordSpec : ChangeSpec := { name := "fnExactLessRecord", fn := fun _ => fun
  | [d1, d2] => { results := [.lit (.bool true)], args := [d1, d2] }
  | _ => none }
def fnExactLessRecordRow : OpenClaim := { program := "ytmcldfjfgmhklaadoor", sum := "be5b45165e7b0fe00f6a0bc0752c6cca453377898fa779fbb4edb6e2730da78a", func := "loop.example/g00497/laws.FnExactLessRecord", spec := "fnExactLessRecord", inPlace := ["internal/bytealg.CountString", "internal/bytealg.IndexByteString", "internal/bytealg.IndexString"], named := ["unicode/utf8.first", "unicode/utf8.acceptRanges", "internal/bytealg.MaxLen"], apart := false, laid := [("unicode/utf8.acceptRanges", laid_unicode_utf8_acceptRanges), ("unicode/utf8.first", laid_unicode_utf8_first)] }
def FnExactLessRecordSaid : Prop := fnExactLessRecordRow.holds Tryd.pinned (OpenSpec.ofChange fnExactLessRecordSpec)

/-- ITS FALSE NEIGHBOUR: 'it returns false'. Refute it at one input. -/
def fnExactLessRecordWrong : ChangeSpec := { name := "fnExactLessRecord", fn := fun _ => fun
  | [d1, d2] => { results := [.lit (.bool false)], args := [d1, d2] }
  | _ => none }
def FnExactLessRecordWrongFalsely : Prop := fnExactLessRecordRow.holds Tryd.pinned (OpenSpec.ofChange fnExactLessRecordWrong)

/-- 'laws.FnExactPutPlain': WHATEVER THE INPUT: true; the input reads as it did. -/
def fnExactPutPlainSpec : ChangeSpec := { name := "fnExactPutPlain", fn := fun _ => fun
  | [d1, d2] => { results := [.lit (.bool true)], args := [d1, d2] }
  | _ => none }
def fnExactPutPlainRow : OpenClaim := { program := "ytmcldfjfgmhklaadoor", sum := "be5b45165e7b0fe00f6a0bc0752c6cca453377898fa779fbb4edb6e2730da78a", func := "loop.example/g00497/laws.FnExactPutPlain", spec := "fnExactPutPlain", inPlace := ["internal/bytealg.CountString", "internal/bytealg.IndexByteString", "internal/bytealg.IndexString"], unfollowed := true, recurses := true, named := ["unicode/utf8.first", "unicode/utf8.acceptRanges", "internal/bytealg.MaxLen"], apart := false, laid := [("unicode/utf8.acceptRanges", laid_unicode_utf8_acceptRanges), ("unicode/utf8.first", laid_unicode_utf8_first)] }
def FnExactPutPlainSaid : Prop := fnExactPutPlainRow.holds Tryd.pinned (OpenSpec.ofChange fnExactPutPlainSpec)

/-- ITS FALSE NEIGHBOUR: 'it returns false'. Refute it at one input. -/
def fnExactPutPlainWrong : ChangeSpec := { name := "fnExactPutPlain", fn := fun _ => fun
  | [d1, d2] => { results := [.lit (.bool false)], args := [d1, d2] }
  | _ => none }
def FnExactPutPlainWrongFalsely : Prop := fnExactPutPlainRow.holds Tryd.pinned (OpenSpec.ofChange fnExactPutPlainWrong)

/-- 'laws.FnExactAbove': WHATEVER THE INPUT: true; the input reads as it did. -/
def fnExactAboveSpec : ChangeSpec := { name := "fnExactAbove", fn := fun _ => fun
  | [d] => { results := [.lit (.bool true)], args := [d] }
  | _ => none }
def fnExactAboveRow : OpenClaim := { program := "ytmcldfjfgmhklaadoor", sum := "be5b45165e7b0fe00f6a0bc0752c6cca453377898fa779fbb4edb6e2730da78a", func := "loop.example/g00497/laws.FnExactAbove", spec := "fnExactAbove", inPlace := ["internal/bytealg.CountString", "internal/bytealg.IndexByteString", "internal/bytealg.IndexString", "internal/abi.NoEscape", "internal/bytealg.MakeNoZero"], named := ["unicode/utf8.first", "unicode/utf8.acceptRanges", "internal/bytealg.MaxLen"], apart := false, laid := [("unicode/utf8.acceptRanges", laid_unicode_utf8_acceptRanges), ("unicode/utf8.first", laid_unicode_utf8_first)] }
def FnExactAboveSaid : Prop := fnExactAboveRow.holds Tryd.pinned (OpenSpec.ofChange fnExactAboveSpec)

/-- ITS FALSE NEIGHBOUR: 'it returns false'. Refute it at one input. -/
def fnExactAboveWrong : ChangeSpec := { name := "fnExactAbove", fn := fun _ => fun
  | [d] => { results := [.lit (.bool false)], args := [d] }
  | _ => none }
def FnExactAboveWrongFalsely : Prop := fnExactAboveRow.holds Tryd.pinned (OpenSpec.ofChange fnExactAboveWrong)

/-- 'laws.FnExactPutData': WHATEVER THE INPUT: true; the input reads as it did. -/
def fnExactPutDataSpec : ChangeSpec := { name := "fnExactPutData", fn := fun _ => fun
  | [d] => { results := [.lit (.bool true)], args := [d] }
  | _ => none }
def fnExactPutDataRow : OpenClaim := { program := "ytmcldfjfgmhklaadoor", sum := "be5b45165e7b0fe00f6a0bc0752c6cca453377898fa779fbb4edb6e2730da78a", func := "loop.example/g00497/laws.FnExactPutData", spec := "fnExactPutData", inPlace := ["internal/bytealg.CountString", "internal/bytealg.IndexByteString", "internal/bytealg.IndexString"], unfollowed := true, recurses := true, named := ["unicode/utf8.first", "unicode/utf8.acceptRanges", "internal/bytealg.MaxLen"], apart := false, laid := [("unicode/utf8.acceptRanges", laid_unicode_utf8_acceptRanges), ("unicode/utf8.first", laid_unicode_utf8_first)] }
def FnExactPutDataSaid : Prop := fnExactPutDataRow.holds Tryd.pinned (OpenSpec.ofChange fnExactPutDataSpec)

/-- ITS FALSE NEIGHBOUR: 'it returns false'. Refute it at one input. -/
def fnExactPutDataWrong : ChangeSpec := { name := "fnExactPutData", fn := fun _ => fun
  | [d] => { results := [.lit (.bool false)], args := [d] }
  | _ => none }
def FnExactPutDataWrongFalsely : Prop := fnExactPutDataRow.holds Tryd.pinned (OpenSpec.ofChange fnExactPutDataWrong)

/- THE SECOND FORM. 'bulk': how many values and letters a reading holds, each counted each time it is reached (what is shared counts as often as it is met; a slice's spare places count too). A statement '..UptoSaid' is the law's where the arguments, and the package variables that the reading takes, are together of bulk at most 1048576: NARROWER than '..Said'. Prove '..Said' where nothing that the law and all that it calls make is longer than what came in: it says more and counts as full. Else prove '..UptoSaid'. A law counts once. -/
mutual
def uptoBulk {H : Type} : DataW H → Nat
  | .lit (.string bytes) => bytes.length + 1
  | .lit _ => 1
  | .nil => 1
  | .ptr d => uptoBulk d + 1
  | .slice elems spare => uptoBulkAll elems + uptoBulkAll spare + 1
  | .agg parts => uptoBulkAll parts + 1
  | .iface _ d => uptoBulk d + 1
  | .map entries => uptoBulkEntries entries + 1
  | .held _ => 1
def uptoBulkAll {H : Type} : List (DataW H) → Nat
  | [] => 0
  | d :: r => uptoBulk d + uptoBulkAll r
def uptoBulkEntries {H : Type} : List (Lit × DataW H) → Nat
  | [] => 0
  | x :: r => uptoBulkEntry x + uptoBulkEntries r
def uptoBulkEntry {H : Type} : Lit × DataW H → Nat
  | (.string bytes, d) => bytes.length + uptoBulk d + 1
  | (_, d) => uptoBulk d + 1
 end
def uptoSmall : (H : Type) → List (DataW H) → Bool := fun _ ds => decide (uptoBulkAll ds ≤ 1048576)
def OpenSpec.upto (s : _root_.Go.ChangeSpec) : _root_.Go.OpenSpec := { _root_.Go.OpenSpec.ofChange s with cond := some uptoSmall }

/-- 'laws.FnExactLabels', WHERE WHAT IT READS IS OF BULK AT MOST 1048576: true; the input reads as it did. -/
def fnExactLabelsUptoRow : OpenClaim := { program := "ytmcldfjfgmhklaadoor", sum := "be5b45165e7b0fe00f6a0bc0752c6cca453377898fa779fbb4edb6e2730da78a", func := "loop.example/g00497/laws.FnExactLabels", spec := "fnExactLabels", inPlace := ["internal/bytealg.CountString", "internal/bytealg.IndexByteString", "internal/bytealg.IndexString"], named := ["unicode/utf8.first", "unicode/utf8.acceptRanges", "internal/bytealg.MaxLen"], apart := false, laid := [("unicode/utf8.acceptRanges", laid_unicode_utf8_acceptRanges), ("unicode/utf8.first", laid_unicode_utf8_first)], narrowed := true }
def FnExactLabelsUptoSaid : Prop := fnExactLabelsUptoRow.holds Tryd.pinned (OpenSpec.upto fnExactLabelsSpec)

/-- 'laws.FnExactNameOk', WHERE WHAT IT READS IS OF BULK AT MOST 1048576: true; the input reads as it did. -/
def fnExactNameOkUptoRow : OpenClaim := { program := "ytmcldfjfgmhklaadoor", sum := "be5b45165e7b0fe00f6a0bc0752c6cca453377898fa779fbb4edb6e2730da78a", func := "loop.example/g00497/laws.FnExactNameOk", spec := "fnExactNameOk", inPlace := ["internal/bytealg.CountString", "internal/bytealg.IndexByteString", "internal/bytealg.IndexString"], unfollowed := true, recurses := true, named := ["unicode/utf8.first", "unicode/utf8.acceptRanges", "internal/bytealg.MaxLen"], apart := false, laid := [("unicode/utf8.acceptRanges", laid_unicode_utf8_acceptRanges), ("unicode/utf8.first", laid_unicode_utf8_first)], narrowed := true }
def FnExactNameOkUptoSaid : Prop := fnExactNameOkUptoRow.holds Tryd.pinned (OpenSpec.upto fnExactNameOkSpec)

/-- 'laws.FnExactLessName', WHERE WHAT IT READS IS OF BULK AT MOST 1048576: true; the input reads as it did. -/
def fnExactLessNameUptoRow : OpenClaim := { program := "ytmcldfjfgmhklaadoor", sum := "be5b45165e7b0fe00f6a0bc0752c6cca453377898fa779fbb4edb6e2730da78a", func := "loop.example/g00497/laws.FnExactLessName", spec := "fnExactLessName", inPlace := ["internal/bytealg.CountString", "internal/bytealg.IndexByteString", "internal/bytealg.IndexString"], named := ["unicode/utf8.first", "unicode/utf8.acceptRanges", "internal/bytealg.MaxLen"], apart := false, laid := [("unicode/utf8.acceptRanges", laid_unicode_utf8_acceptRanges), ("unicode/utf8.first", laid_unicode_utf8_first)], narrowed := true }
def FnExactLessNameUptoSaid : Prop := fnExactLessNameUptoRow.holds Tryd.pinned (OpenSpec.upto fnExactLessNameSpec)

/-- 'laws.FnExactQuestOk', WHERE WHAT IT READS IS OF BULK AT MOST 1048576: true; the input reads as it did. -/
def fnExactQuestOkUptoRow : OpenClaim := { program := "ytmcldfjfgmhklaadoor", sum := "be5b45165e7b0fe00f6a0bc0752c6cca453377898fa779fbb4edb6e2730da78a", func := "loop.example/g00497/laws.FnExactQuestOk", spec := "fnExactQuestOk", inPlace := ["internal/bytealg.CountString", "internal/bytealg.IndexByteString", "internal/bytealg.IndexString"], unfollowed := true, recurses := true, named := ["unicode/utf8.first", "unicode/utf8.acceptRanges", "internal/bytealg.MaxLen"], apart := false, laid := [("unicode/utf8.acceptRanges", laid_unicode_utf8_acceptRanges), ("unicode/utf8.first", laid_unicode_utf8_first)], narrowed := true }
def FnExactQuestOkUptoSaid : Prop := fnExactQuestOkUptoRow.holds Tryd.pinned (OpenSpec.upto fnExactQuestOkSpec)

/-- 'laws.FnExactUp', WHERE WHAT IT READS IS OF BULK AT MOST 1048576: true; the input reads as it did. -/
def fnExactUpUptoRow : OpenClaim := { program := "ytmcldfjfgmhklaadoor", sum := "be5b45165e7b0fe00f6a0bc0752c6cca453377898fa779fbb4edb6e2730da78a", func := "loop.example/g00497/laws.FnExactUp", spec := "fnExactUp", inPlace := ["internal/bytealg.CountString", "internal/bytealg.IndexByteString", "internal/bytealg.IndexString", "internal/abi.NoEscape", "internal/bytealg.MakeNoZero"], named := ["unicode/utf8.first", "unicode/utf8.acceptRanges", "internal/bytealg.MaxLen"], apart := false, laid := [("unicode/utf8.acceptRanges", laid_unicode_utf8_acceptRanges), ("unicode/utf8.first", laid_unicode_utf8_first)], narrowed := true }
def FnExactUpUptoSaid : Prop := fnExactUpUptoRow.holds Tryd.pinned (OpenSpec.upto fnExactUpSpec)

/-- 'laws.FnExactRecordOk', WHERE WHAT IT READS IS OF BULK AT MOST 1048576: true; the input reads as it did. -/
def fnExactRecordOkUptoRow : OpenClaim := { program := "ytmcldfjfgmhklaadoor", sum := "be5b45165e7b0fe00f6a0bc0752c6cca453377898fa779fbb4edb6e2730da78a", func := "loop.example/g00497/laws.FnExactRecordOk", spec := "fnExactRecordOk", inPlace := ["internal/bytealg.CountString", "internal/bytealg.IndexByteString", "internal/bytealg.IndexString"], unfollowed := true, recurses := true, named := ["unicode/utf8.first", "unicode/utf8.acceptRanges", "internal/bytealg.MaxLen"], apart := false, laid := [("unicode/utf8.acceptRanges", laid_unicode_utf8_acceptRanges), ("unicode/utf8.first", laid_unicode_utf8_first)], narrowed := true }
def FnExactRecordOkUptoSaid : Prop := fnExactRecordOkUptoRow.holds Tryd.pinned (OpenSpec.upto fnExactRecordOkSpec)

/-- 'laws.FnExactLessRecord', WHERE WHAT IT READS IS OF BULK AT MOST 1048576: true; the input reads as it did. -/
def fnExactLessRecordUptoRow : OpenClaim := { program := "ytmcldfjfgmhklaadoor", sum := "be5b45165e7b0fe00f6a0bc0752c6cca453377898fa779fbb4edb6e2730da78a", func := "loop.example/g00497/laws.FnExactLessRecord", spec := "fnExactLessRecord", inPlace := ["internal/bytealg.CountString", "internal/bytealg.IndexByteString", "internal/bytealg.IndexString"], named := ["unicode/utf8.first", "unicode/utf8.acceptRanges", "internal/bytealg.MaxLen"], apart := false, laid := [("unicode/utf8.acceptRanges", laid_unicode_utf8_acceptRanges), ("unicode/utf8.first", laid_unicode_utf8_first)], narrowed := true }
def FnExactLessRecordUptoSaid : Prop := fnExactLessRecordUptoRow.holds Tryd.pinned (OpenSpec.upto fnExactLessRecordSpec)

/-- 'laws.FnExactPutPlain', WHERE WHAT IT READS IS OF BULK AT MOST 1048576: true; the input reads as it did. -/
def fnExactPutPlainUptoRow : OpenClaim := { program := "ytmcldfjfgmhklaadoor", sum := "be5b45165e7b0fe00f6a0bc0752c6cca453377898fa779fbb4edb6e2730da78a", func := "loop.example/g00497/laws.FnExactPutPlain", spec := "fnExactPutPlain", inPlace := ["internal/bytealg.CountString", "internal/bytealg.IndexByteString", "internal/bytealg.IndexString"], unfollowed := true, recurses := true, named := ["unicode/utf8.first", "unicode/utf8.acceptRanges", "internal/bytealg.MaxLen"], apart := false, laid := [("unicode/utf8.acceptRanges", laid_unicode_utf8_acceptRanges), ("unicode/utf8.first", laid_unicode_utf8_first)], narrowed := true }
def FnExactPutPlainUptoSaid : Prop := fnExactPutPlainUptoRow.holds Tryd.pinned (OpenSpec.upto fnExactPutPlainSpec)

/-- 'laws.FnExactAbove', WHERE WHAT IT READS IS OF BULK AT MOST 1048576: true; the input reads as it did. -/
def fnExactAboveUptoRow : OpenClaim := { program := "ytmcldfjfgmhklaadoor", sum := "be5b45165e7b0fe00f6a0bc0752c6cca453377898fa779fbb4edb6e2730da78a", func := "loop.example/g00497/laws.FnExactAbove", spec := "fnExactAbove", inPlace := ["internal/bytealg.CountString", "internal/bytealg.IndexByteString", "internal/bytealg.IndexString", "internal/abi.NoEscape", "internal/bytealg.MakeNoZero"], named := ["unicode/utf8.first", "unicode/utf8.acceptRanges", "internal/bytealg.MaxLen"], apart := false, laid := [("unicode/utf8.acceptRanges", laid_unicode_utf8_acceptRanges), ("unicode/utf8.first", laid_unicode_utf8_first)], narrowed := true }
def FnExactAboveUptoSaid : Prop := fnExactAboveUptoRow.holds Tryd.pinned (OpenSpec.upto fnExactAboveSpec)

/-- 'laws.FnExactPutData', WHERE WHAT IT READS IS OF BULK AT MOST 1048576: true; the input reads as it did. -/
def fnExactPutDataUptoRow : OpenClaim := { program := "ytmcldfjfgmhklaadoor", sum := "be5b45165e7b0fe00f6a0bc0752c6cca453377898fa779fbb4edb6e2730da78a", func := "loop.example/g00497/laws.FnExactPutData", spec := "fnExactPutData", inPlace := ["internal/bytealg.CountString", "internal/bytealg.IndexByteString", "internal/bytealg.IndexString"], unfollowed := true, recurses := true, named := ["unicode/utf8.first", "unicode/utf8.acceptRanges", "internal/bytealg.MaxLen"], apart := false, laid := [("unicode/utf8.acceptRanges", laid_unicode_utf8_acceptRanges), ("unicode/utf8.first", laid_unicode_utf8_first)], narrowed := true }
def FnExactPutDataUptoSaid : Prop := fnExactPutDataUptoRow.holds Tryd.pinned (OpenSpec.upto fnExactPutDataSpec)

end Rows
end Go.Proofs.YtmcldfjfgmhklaaDoor
