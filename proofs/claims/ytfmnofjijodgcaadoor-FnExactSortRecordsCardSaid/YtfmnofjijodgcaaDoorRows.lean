/-
  NARROWER THAN 'FOR EVERY INPUT', by the rows' own cells (each row's printed sentence says how): FnExactGetName: laid · FnExactJumpsIn: laid · FnExactRecordText: laid · FnExactPlaceOf: laid · FnExactMsgOk: laid · FnExactSortRecords: laid · FnExactPutName: laid · FnExactGetData: laid · FnExactMsgText: laid · FnExactGetRecord: laid · FnExactPutRecord: laid · FnExactGetRecords: laid.
  DERIVED. THE GIVEN ROWS OF THIS SEAT. 12 by the template 'for every input the law returns true; each argument reads behind the call as it read before'; 0 by the template 'total and deterministic' (their statements: YtfmnofjijodgcaaDoorTotals.lean).
  GIVEN WITH THE SEED: the statements are not yours to turn. If you find one false, say at which input.
  Laid BY PROGRAM, IN A SANDBOX (cutbox-rows.mjs): the forced cells as the released guide's own fill.sh prints them over the translation 155af229d392144b… (all of the seat's roots in one cut). By AI agents, Wed Nov 11 2026. No macro, syntax, notation, axiom, sorry.
-/
import Derived.Test.YtfmnofjijodgcaaDoorChecked
import GoSem.PinnedTables
import GoSem.Claim
import GoSem.ClaimJoined
import GoSem.ClaimMapViews
import Derived.JoinedTies
import Derived.KernelRfl
namespace Go.Proofs.YtfmnofjijodgcaaDoor
/- THE CELL 'sum', in the pinned program and in every row, IS THE sha256 OF THE DUMP (.gsa) THAT YtfmnofjijodgcaaDoorProg.lean LOADS. Nothing in Lean hashes anything: it is a label: what it is worth is what the hold of that sum in a sandbox is worth. -/
noncomputable def Tryd.pinned : Pinned := { name := "ytfmnofjijodgcaadoor", sum := "155af229d392144bfb355317c70949df96cf7541c532125b8b3f127e8d0e1eef", checked := Tryd.checked }
namespace Rows
def none {H : Type} : Left H := { results := [], args := [] }

/- WHAT THE LISTED PACKAGE-LEVEL VARIABLES READ AS WHEN THE CALL BEGINS. Each datum BY PROGRAM (the guide's laid-datum.mjs) off the statement by which the dump's own 'gosem.cut.vars' lays the variable. In a bare row this is a premise. The card (YtfmnofjijodgcaaDoorCards.lean) ties it to the program's text. -/
def laid_unicode_utf8_acceptRanges {H : Type} : DataW H := .agg [.agg [.lit (.int .u8 128), .lit (.int .u8 191)], .agg [.lit (.int .u8 160), .lit (.int .u8 191)], .agg [.lit (.int .u8 128), .lit (.int .u8 159)], .agg [.lit (.int .u8 144), .lit (.int .u8 191)], .agg [.lit (.int .u8 128), .lit (.int .u8 143)], .agg [.lit (.int .u8 0), .lit (.int .u8 0)], .agg [.lit (.int .u8 0), .lit (.int .u8 0)], .agg [.lit (.int .u8 0), .lit (.int .u8 0)], .agg [.lit (.int .u8 0), .lit (.int .u8 0)], .agg [.lit (.int .u8 0), .lit (.int .u8 0)], .agg [.lit (.int .u8 0), .lit (.int .u8 0)], .agg [.lit (.int .u8 0), .lit (.int .u8 0)], .agg [.lit (.int .u8 0), .lit (.int .u8 0)], .agg [.lit (.int .u8 0), .lit (.int .u8 0)], .agg [.lit (.int .u8 0), .lit (.int .u8 0)], .agg [.lit (.int .u8 0), .lit (.int .u8 0)]]
/-- One of Go's own tables, pinned by name: the form's constant. -/
def laid_unicode_utf8_first : DataW Unit := Go.Pinned.utf8First

/-- 'laws.FnExactGetName': WHATEVER THE INPUT: true; the input reads as it did. -/
def fnExactGetNameSpec : ChangeSpec := { name := "fnExactGetName", fn := fun _ => fun
  | [d1, d2] => { results := [.lit (.bool true)], args := [d1, d2] }
  | _ => none }
def fnExactGetNameRow : OpenClaim := { program := "ytfmnofjijodgcaadoor", sum := "155af229d392144bfb355317c70949df96cf7541c532125b8b3f127e8d0e1eef", func := "loop.example/g00497/laws.FnExactGetName", spec := "fnExactGetName", inPlace := ["internal/abi.NoEscape", "internal/bytealg.MakeNoZero", "internal/bytealg.CountString", "internal/bytealg.IndexByteString", "internal/bytealg.IndexString"], unfollowed := true, recurses := true, named := ["unicode/utf8.first", "unicode/utf8.acceptRanges", "internal/bytealg.MaxLen"], apart := false, laid := [("unicode/utf8.acceptRanges", laid_unicode_utf8_acceptRanges), ("unicode/utf8.first", laid_unicode_utf8_first)] }
def FnExactGetNameSaid : Prop := fnExactGetNameRow.holds Tryd.pinned (OpenSpec.ofChange fnExactGetNameSpec)

/-- ITS FALSE NEIGHBOUR: 'it returns false'. Refute it at one input. -/
def fnExactGetNameWrong : ChangeSpec := { name := "fnExactGetName", fn := fun _ => fun
  | [d1, d2] => { results := [.lit (.bool false)], args := [d1, d2] }
  | _ => none }
def FnExactGetNameWrongFalsely : Prop := fnExactGetNameRow.holds Tryd.pinned (OpenSpec.ofChange fnExactGetNameWrong)

/-- 'laws.FnExactJumpsIn': WHATEVER THE INPUT: true; the input reads as it did. -/
def fnExactJumpsInSpec : ChangeSpec := { name := "fnExactJumpsIn", fn := fun _ => fun
  | [d1, d2] => { results := [.lit (.bool true)], args := [d1, d2] }
  | _ => none }
def fnExactJumpsInRow : OpenClaim := { program := "ytfmnofjijodgcaadoor", sum := "155af229d392144bfb355317c70949df96cf7541c532125b8b3f127e8d0e1eef", func := "loop.example/g00497/laws.FnExactJumpsIn", spec := "fnExactJumpsIn", inPlace := ["internal/abi.NoEscape", "internal/bytealg.MakeNoZero", "internal/bytealg.CountString", "internal/bytealg.IndexByteString", "internal/bytealg.IndexString"], unfollowed := true, recurses := true, named := ["unicode/utf8.first", "unicode/utf8.acceptRanges", "internal/bytealg.MaxLen"], apart := false, laid := [("unicode/utf8.acceptRanges", laid_unicode_utf8_acceptRanges), ("unicode/utf8.first", laid_unicode_utf8_first)] }
def FnExactJumpsInSaid : Prop := fnExactJumpsInRow.holds Tryd.pinned (OpenSpec.ofChange fnExactJumpsInSpec)

/-- ITS FALSE NEIGHBOUR: 'it returns false'. Refute it at one input. -/
def fnExactJumpsInWrong : ChangeSpec := { name := "fnExactJumpsIn", fn := fun _ => fun
  | [d1, d2] => { results := [.lit (.bool false)], args := [d1, d2] }
  | _ => none }
def FnExactJumpsInWrongFalsely : Prop := fnExactJumpsInRow.holds Tryd.pinned (OpenSpec.ofChange fnExactJumpsInWrong)

/-- 'laws.FnExactRecordText': WHATEVER THE INPUT: true; the input reads as it did. -/
def fnExactRecordTextSpec : ChangeSpec := { name := "fnExactRecordText", fn := fun _ => fun
  | [d] => { results := [.lit (.bool true)], args := [d] }
  | _ => none }
def fnExactRecordTextRow : OpenClaim := { program := "ytfmnofjijodgcaadoor", sum := "155af229d392144bfb355317c70949df96cf7541c532125b8b3f127e8d0e1eef", func := "loop.example/g00497/laws.FnExactRecordText", spec := "fnExactRecordText", inPlace := ["internal/bytealg.CountString", "internal/bytealg.IndexByteString", "internal/bytealg.IndexString", "internal/abi.NoEscape", "internal/bytealg.MakeNoZero"], unfollowed := true, recurses := true, named := ["unicode/utf8.first", "unicode/utf8.acceptRanges", "internal/bytealg.MaxLen"], apart := false, laid := [("unicode/utf8.acceptRanges", laid_unicode_utf8_acceptRanges), ("unicode/utf8.first", laid_unicode_utf8_first)] }
def FnExactRecordTextSaid : Prop := fnExactRecordTextRow.holds Tryd.pinned (OpenSpec.ofChange fnExactRecordTextSpec)

/-- ITS FALSE NEIGHBOUR: 'it returns false'. Refute it at one input. -/
def fnExactRecordTextWrong : ChangeSpec := { name := "fnExactRecordText", fn := fun _ => fun
  | [d] => { results := [.lit (.bool false)], args := [d] }
  | _ => none }
def FnExactRecordTextWrongFalsely : Prop := fnExactRecordTextRow.holds Tryd.pinned (OpenSpec.ofChange fnExactRecordTextWrong)

/-- 'laws.FnExactPlaceOf': WHATEVER THE INPUT: true; the input reads as it did. -/
def fnExactPlaceOfSpec : ChangeSpec := { name := "fnExactPlaceOf", fn := fun _ => fun
  | [d1, d2] => { results := [.lit (.bool true)], args := [d1, d2] }
  | _ => none }
def fnExactPlaceOfRow : OpenClaim := { program := "ytfmnofjijodgcaadoor", sum := "155af229d392144bfb355317c70949df96cf7541c532125b8b3f127e8d0e1eef", func := "loop.example/g00497/laws.FnExactPlaceOf", spec := "fnExactPlaceOf", inPlace := ["internal/abi.NoEscape", "internal/bytealg.MakeNoZero", "internal/bytealg.CountString", "internal/bytealg.IndexByteString", "internal/bytealg.IndexString"], unfollowed := true, recurses := true, named := ["unicode/utf8.first", "unicode/utf8.acceptRanges", "internal/bytealg.MaxLen"], apart := false, laid := [("unicode/utf8.acceptRanges", laid_unicode_utf8_acceptRanges), ("unicode/utf8.first", laid_unicode_utf8_first)] }
def FnExactPlaceOfSaid : Prop := fnExactPlaceOfRow.holds Tryd.pinned (OpenSpec.ofChange fnExactPlaceOfSpec)

/-- ITS FALSE NEIGHBOUR: 'it returns false'. Refute it at one input. -/
def fnExactPlaceOfWrong : ChangeSpec := { name := "fnExactPlaceOf", fn := fun _ => fun
  | [d1, d2] => { results := [.lit (.bool false)], args := [d1, d2] }
  | _ => none }
def FnExactPlaceOfWrongFalsely : Prop := fnExactPlaceOfRow.holds Tryd.pinned (OpenSpec.ofChange fnExactPlaceOfWrong)

/-- 'laws.FnExactMsgOk': WHATEVER THE INPUT: true; the input reads as it did. -/
def fnExactMsgOkSpec : ChangeSpec := { name := "fnExactMsgOk", fn := fun _ => fun
  | [d] => { results := [.lit (.bool true)], args := [d] }
  | _ => none }
def fnExactMsgOkRow : OpenClaim := { program := "ytfmnofjijodgcaadoor", sum := "155af229d392144bfb355317c70949df96cf7541c532125b8b3f127e8d0e1eef", func := "loop.example/g00497/laws.FnExactMsgOk", spec := "fnExactMsgOk", inPlace := ["internal/bytealg.CountString", "internal/bytealg.IndexByteString", "internal/bytealg.IndexString"], unfollowed := true, recurses := true, named := ["unicode/utf8.first", "unicode/utf8.acceptRanges", "internal/bytealg.MaxLen"], apart := false, laid := [("unicode/utf8.acceptRanges", laid_unicode_utf8_acceptRanges), ("unicode/utf8.first", laid_unicode_utf8_first)] }
def FnExactMsgOkSaid : Prop := fnExactMsgOkRow.holds Tryd.pinned (OpenSpec.ofChange fnExactMsgOkSpec)

/-- ITS FALSE NEIGHBOUR: 'it returns false'. Refute it at one input. -/
def fnExactMsgOkWrong : ChangeSpec := { name := "fnExactMsgOk", fn := fun _ => fun
  | [d] => { results := [.lit (.bool false)], args := [d] }
  | _ => none }
def FnExactMsgOkWrongFalsely : Prop := fnExactMsgOkRow.holds Tryd.pinned (OpenSpec.ofChange fnExactMsgOkWrong)

/-- 'laws.FnExactSortRecords': WHATEVER THE INPUT: true; the input reads as it did. -/
def fnExactSortRecordsSpec : ChangeSpec := { name := "fnExactSortRecords", fn := fun _ => fun
  | [d] => { results := [.lit (.bool true)], args := [d] }
  | _ => none }
def fnExactSortRecordsRow : OpenClaim := { program := "ytfmnofjijodgcaadoor", sum := "155af229d392144bfb355317c70949df96cf7541c532125b8b3f127e8d0e1eef", func := "loop.example/g00497/laws.FnExactSortRecords", spec := "fnExactSortRecords", inPlace := ["internal/bytealg.CountString", "internal/bytealg.IndexByteString", "internal/bytealg.IndexString"], unfollowed := true, recurses := true, named := ["unicode/utf8.first", "unicode/utf8.acceptRanges", "internal/bytealg.MaxLen"], apart := false, laid := [("unicode/utf8.acceptRanges", laid_unicode_utf8_acceptRanges), ("unicode/utf8.first", laid_unicode_utf8_first)] }
def FnExactSortRecordsSaid : Prop := fnExactSortRecordsRow.holds Tryd.pinned (OpenSpec.ofChange fnExactSortRecordsSpec)

/-- ITS FALSE NEIGHBOUR: 'it returns false'. Refute it at one input. -/
def fnExactSortRecordsWrong : ChangeSpec := { name := "fnExactSortRecords", fn := fun _ => fun
  | [d] => { results := [.lit (.bool false)], args := [d] }
  | _ => none }
def FnExactSortRecordsWrongFalsely : Prop := fnExactSortRecordsRow.holds Tryd.pinned (OpenSpec.ofChange fnExactSortRecordsWrong)

/-- 'laws.FnExactPutName': WHATEVER THE INPUT: true; the input reads as it did. -/
def fnExactPutNameSpec : ChangeSpec := { name := "fnExactPutName", fn := fun _ => fun
  | [d1, d2] => { results := [.lit (.bool true)], args := [d1, d2] }
  | _ => none }
def fnExactPutNameRow : OpenClaim := { program := "ytfmnofjijodgcaadoor", sum := "155af229d392144bfb355317c70949df96cf7541c532125b8b3f127e8d0e1eef", func := "loop.example/g00497/laws.FnExactPutName", spec := "fnExactPutName", inPlace := ["internal/bytealg.CountString", "internal/bytealg.IndexByteString", "internal/bytealg.IndexString", "internal/abi.NoEscape", "internal/bytealg.MakeNoZero"], unfollowed := true, recurses := true, named := ["unicode/utf8.first", "unicode/utf8.acceptRanges", "internal/bytealg.MaxLen"], apart := false, laid := [("unicode/utf8.acceptRanges", laid_unicode_utf8_acceptRanges), ("unicode/utf8.first", laid_unicode_utf8_first)] }
def FnExactPutNameSaid : Prop := fnExactPutNameRow.holds Tryd.pinned (OpenSpec.ofChange fnExactPutNameSpec)

/-- ITS FALSE NEIGHBOUR: 'it returns false'. Refute it at one input. -/
def fnExactPutNameWrong : ChangeSpec := { name := "fnExactPutName", fn := fun _ => fun
  | [d1, d2] => { results := [.lit (.bool false)], args := [d1, d2] }
  | _ => none }
def FnExactPutNameWrongFalsely : Prop := fnExactPutNameRow.holds Tryd.pinned (OpenSpec.ofChange fnExactPutNameWrong)

/-- 'laws.FnExactGetData': WHATEVER THE INPUT: true; the input reads as it did. -/
def fnExactGetDataSpec : ChangeSpec := { name := "fnExactGetData", fn := fun _ => fun
  | [d1, d2, d3, d4] => { results := [.lit (.bool true)], args := [d1, d2, d3, d4] }
  | _ => none }
def fnExactGetDataRow : OpenClaim := { program := "ytfmnofjijodgcaadoor", sum := "155af229d392144bfb355317c70949df96cf7541c532125b8b3f127e8d0e1eef", func := "loop.example/g00497/laws.FnExactGetData", spec := "fnExactGetData", inPlace := ["internal/abi.NoEscape", "internal/bytealg.MakeNoZero", "internal/bytealg.CountString", "internal/bytealg.IndexByteString", "internal/bytealg.IndexString"], unfollowed := true, recurses := true, named := ["unicode/utf8.first", "unicode/utf8.acceptRanges", "internal/bytealg.MaxLen"], apart := false, laid := [("unicode/utf8.acceptRanges", laid_unicode_utf8_acceptRanges), ("unicode/utf8.first", laid_unicode_utf8_first)] }
def FnExactGetDataSaid : Prop := fnExactGetDataRow.holds Tryd.pinned (OpenSpec.ofChange fnExactGetDataSpec)

/-- ITS FALSE NEIGHBOUR: 'it returns false'. Refute it at one input. -/
def fnExactGetDataWrong : ChangeSpec := { name := "fnExactGetData", fn := fun _ => fun
  | [d1, d2, d3, d4] => { results := [.lit (.bool false)], args := [d1, d2, d3, d4] }
  | _ => none }
def FnExactGetDataWrongFalsely : Prop := fnExactGetDataRow.holds Tryd.pinned (OpenSpec.ofChange fnExactGetDataWrong)

/-- 'laws.FnExactMsgText': WHATEVER THE INPUT: true; the input reads as it did. -/
def fnExactMsgTextSpec : ChangeSpec := { name := "fnExactMsgText", fn := fun _ => fun
  | [d] => { results := [.lit (.bool true)], args := [d] }
  | _ => none }
def fnExactMsgTextRow : OpenClaim := { program := "ytfmnofjijodgcaadoor", sum := "155af229d392144bfb355317c70949df96cf7541c532125b8b3f127e8d0e1eef", func := "loop.example/g00497/laws.FnExactMsgText", spec := "fnExactMsgText", inPlace := ["internal/bytealg.CountString", "internal/bytealg.IndexByteString", "internal/bytealg.IndexString", "internal/abi.NoEscape", "internal/bytealg.MakeNoZero"], unfollowed := true, recurses := true, named := ["unicode/utf8.first", "unicode/utf8.acceptRanges", "internal/bytealg.MaxLen"], apart := false, laid := [("unicode/utf8.acceptRanges", laid_unicode_utf8_acceptRanges), ("unicode/utf8.first", laid_unicode_utf8_first)] }
def FnExactMsgTextSaid : Prop := fnExactMsgTextRow.holds Tryd.pinned (OpenSpec.ofChange fnExactMsgTextSpec)

/-- ITS FALSE NEIGHBOUR: 'it returns false'. Refute it at one input. -/
def fnExactMsgTextWrong : ChangeSpec := { name := "fnExactMsgText", fn := fun _ => fun
  | [d] => { results := [.lit (.bool false)], args := [d] }
  | _ => none }
def FnExactMsgTextWrongFalsely : Prop := fnExactMsgTextRow.holds Tryd.pinned (OpenSpec.ofChange fnExactMsgTextWrong)

/-- 'laws.FnExactGetRecord': WHATEVER THE INPUT: true; the input reads as it did. -/
def fnExactGetRecordSpec : ChangeSpec := { name := "fnExactGetRecord", fn := fun _ => fun
  | [d1, d2] => { results := [.lit (.bool true)], args := [d1, d2] }
  | _ => none }
def fnExactGetRecordRow : OpenClaim := { program := "ytfmnofjijodgcaadoor", sum := "155af229d392144bfb355317c70949df96cf7541c532125b8b3f127e8d0e1eef", func := "loop.example/g00497/laws.FnExactGetRecord", spec := "fnExactGetRecord", inPlace := ["internal/abi.NoEscape", "internal/bytealg.MakeNoZero", "internal/bytealg.CountString", "internal/bytealg.IndexByteString", "internal/bytealg.IndexString"], unfollowed := true, recurses := true, named := ["unicode/utf8.first", "unicode/utf8.acceptRanges", "internal/bytealg.MaxLen"], apart := false, laid := [("unicode/utf8.acceptRanges", laid_unicode_utf8_acceptRanges), ("unicode/utf8.first", laid_unicode_utf8_first)] }
def FnExactGetRecordSaid : Prop := fnExactGetRecordRow.holds Tryd.pinned (OpenSpec.ofChange fnExactGetRecordSpec)

/-- ITS FALSE NEIGHBOUR: 'it returns false'. Refute it at one input. -/
def fnExactGetRecordWrong : ChangeSpec := { name := "fnExactGetRecord", fn := fun _ => fun
  | [d1, d2] => { results := [.lit (.bool false)], args := [d1, d2] }
  | _ => none }
def FnExactGetRecordWrongFalsely : Prop := fnExactGetRecordRow.holds Tryd.pinned (OpenSpec.ofChange fnExactGetRecordWrong)

/-- 'laws.FnExactPutRecord': WHATEVER THE INPUT: true; the input reads as it did. -/
def fnExactPutRecordSpec : ChangeSpec := { name := "fnExactPutRecord", fn := fun _ => fun
  | [d1, d2] => { results := [.lit (.bool true)], args := [d1, d2] }
  | _ => none }
def fnExactPutRecordRow : OpenClaim := { program := "ytfmnofjijodgcaadoor", sum := "155af229d392144bfb355317c70949df96cf7541c532125b8b3f127e8d0e1eef", func := "loop.example/g00497/laws.FnExactPutRecord", spec := "fnExactPutRecord", inPlace := ["internal/bytealg.CountString", "internal/bytealg.IndexByteString", "internal/bytealg.IndexString", "internal/abi.NoEscape", "internal/bytealg.MakeNoZero"], unfollowed := true, recurses := true, named := ["unicode/utf8.first", "unicode/utf8.acceptRanges", "internal/bytealg.MaxLen"], apart := false, laid := [("unicode/utf8.acceptRanges", laid_unicode_utf8_acceptRanges), ("unicode/utf8.first", laid_unicode_utf8_first)] }
def FnExactPutRecordSaid : Prop := fnExactPutRecordRow.holds Tryd.pinned (OpenSpec.ofChange fnExactPutRecordSpec)

/-- ITS FALSE NEIGHBOUR: 'it returns false'. Refute it at one input. -/
def fnExactPutRecordWrong : ChangeSpec := { name := "fnExactPutRecord", fn := fun _ => fun
  | [d1, d2] => { results := [.lit (.bool false)], args := [d1, d2] }
  | _ => none }
def FnExactPutRecordWrongFalsely : Prop := fnExactPutRecordRow.holds Tryd.pinned (OpenSpec.ofChange fnExactPutRecordWrong)

/-- 'laws.FnExactGetRecords': WHATEVER THE INPUT: true; the input reads as it did. -/
def fnExactGetRecordsSpec : ChangeSpec := { name := "fnExactGetRecords", fn := fun _ => fun
  | [d1, d2, d3] => { results := [.lit (.bool true)], args := [d1, d2, d3] }
  | _ => none }
def fnExactGetRecordsRow : OpenClaim := { program := "ytfmnofjijodgcaadoor", sum := "155af229d392144bfb355317c70949df96cf7541c532125b8b3f127e8d0e1eef", func := "loop.example/g00497/laws.FnExactGetRecords", spec := "fnExactGetRecords", inPlace := ["internal/abi.NoEscape", "internal/bytealg.MakeNoZero", "internal/bytealg.CountString", "internal/bytealg.IndexByteString", "internal/bytealg.IndexString"], unfollowed := true, recurses := true, named := ["unicode/utf8.first", "unicode/utf8.acceptRanges", "internal/bytealg.MaxLen"], apart := false, laid := [("unicode/utf8.acceptRanges", laid_unicode_utf8_acceptRanges), ("unicode/utf8.first", laid_unicode_utf8_first)] }
def FnExactGetRecordsSaid : Prop := fnExactGetRecordsRow.holds Tryd.pinned (OpenSpec.ofChange fnExactGetRecordsSpec)

/-- ITS FALSE NEIGHBOUR: 'it returns false'. Refute it at one input. -/
def fnExactGetRecordsWrong : ChangeSpec := { name := "fnExactGetRecords", fn := fun _ => fun
  | [d1, d2, d3] => { results := [.lit (.bool false)], args := [d1, d2, d3] }
  | _ => none }
def FnExactGetRecordsWrongFalsely : Prop := fnExactGetRecordsRow.holds Tryd.pinned (OpenSpec.ofChange fnExactGetRecordsWrong)

/- THE SECOND FORM. 'bulk': how many values and letters a reading holds, each counted each time it is reached (what is shared counts as often as it is met; a slice's spare places count too). A statement '..UptoSaid' is the law's where the arguments, and the package variables that the reading takes, are together of bulk at most 1048576: NARROWER than '..Said'. Prove '..Said' where nothing that the law and all that it calls make is longer than what came in: it says more and counts as full. Else prove '..UptoSaid'. A law counts once. -/
mutual
def uptoBulk {H : Type} : DataW H → Nat
  | .lit (.string bytes) => bytes.length + 1
  | .lit _ => 1
  | .nil => 1
  | .ptr d => uptoBulk d + 1
  | .slice elems spare => uptoBulkAll elems + uptoBulkAll spare + 1
  | .agg parts => uptoBulkAll parts + 1
  | .iface _ d => uptoBulk d + 1
  | .map entries => uptoBulkEntries entries + 1
  | .held _ => 1
def uptoBulkAll {H : Type} : List (DataW H) → Nat
  | [] => 0
  | d :: r => uptoBulk d + uptoBulkAll r
def uptoBulkEntries {H : Type} : List (Lit × DataW H) → Nat
  | [] => 0
  | x :: r => uptoBulkEntry x + uptoBulkEntries r
def uptoBulkEntry {H : Type} : Lit × DataW H → Nat
  | (.string bytes, d) => bytes.length + uptoBulk d + 1
  | (_, d) => uptoBulk d + 1
 end
def uptoSmall : (H : Type) → List (DataW H) → Bool := fun _ ds => decide (uptoBulkAll ds ≤ 1048576)
def OpenSpec.upto (s : _root_.Go.ChangeSpec) : _root_.Go.OpenSpec := { _root_.Go.OpenSpec.ofChange s with cond := some uptoSmall }

/-- 'laws.FnExactGetName', WHERE WHAT IT READS IS OF BULK AT MOST 1048576: true; the input reads as it did. -/
def fnExactGetNameUptoRow : OpenClaim := { program := "ytfmnofjijodgcaadoor", sum := "155af229d392144bfb355317c70949df96cf7541c532125b8b3f127e8d0e1eef", func := "loop.example/g00497/laws.FnExactGetName", spec := "fnExactGetName", inPlace := ["internal/abi.NoEscape", "internal/bytealg.MakeNoZero", "internal/bytealg.CountString", "internal/bytealg.IndexByteString", "internal/bytealg.IndexString"], unfollowed := true, recurses := true, named := ["unicode/utf8.first", "unicode/utf8.acceptRanges", "internal/bytealg.MaxLen"], apart := false, laid := [("unicode/utf8.acceptRanges", laid_unicode_utf8_acceptRanges), ("unicode/utf8.first", laid_unicode_utf8_first)], narrowed := true }
def FnExactGetNameUptoSaid : Prop := fnExactGetNameUptoRow.holds Tryd.pinned (OpenSpec.upto fnExactGetNameSpec)

/-- 'laws.FnExactJumpsIn', WHERE WHAT IT READS IS OF BULK AT MOST 1048576: true; the input reads as it did. -/
def fnExactJumpsInUptoRow : OpenClaim := { program := "ytfmnofjijodgcaadoor", sum := "155af229d392144bfb355317c70949df96cf7541c532125b8b3f127e8d0e1eef", func := "loop.example/g00497/laws.FnExactJumpsIn", spec := "fnExactJumpsIn", inPlace := ["internal/abi.NoEscape", "internal/bytealg.MakeNoZero", "internal/bytealg.CountString", "internal/bytealg.IndexByteString", "internal/bytealg.IndexString"], unfollowed := true, recurses := true, named := ["unicode/utf8.first", "unicode/utf8.acceptRanges", "internal/bytealg.MaxLen"], apart := false, laid := [("unicode/utf8.acceptRanges", laid_unicode_utf8_acceptRanges), ("unicode/utf8.first", laid_unicode_utf8_first)], narrowed := true }
def FnExactJumpsInUptoSaid : Prop := fnExactJumpsInUptoRow.holds Tryd.pinned (OpenSpec.upto fnExactJumpsInSpec)

/-- 'laws.FnExactRecordText', WHERE WHAT IT READS IS OF BULK AT MOST 1048576: true; the input reads as it did. -/
def fnExactRecordTextUptoRow : OpenClaim := { program := "ytfmnofjijodgcaadoor", sum := "155af229d392144bfb355317c70949df96cf7541c532125b8b3f127e8d0e1eef", func := "loop.example/g00497/laws.FnExactRecordText", spec := "fnExactRecordText", inPlace := ["internal/bytealg.CountString", "internal/bytealg.IndexByteString", "internal/bytealg.IndexString", "internal/abi.NoEscape", "internal/bytealg.MakeNoZero"], unfollowed := true, recurses := true, named := ["unicode/utf8.first", "unicode/utf8.acceptRanges", "internal/bytealg.MaxLen"], apart := false, laid := [("unicode/utf8.acceptRanges", laid_unicode_utf8_acceptRanges), ("unicode/utf8.first", laid_unicode_utf8_first)], narrowed := true }
def FnExactRecordTextUptoSaid : Prop := fnExactRecordTextUptoRow.holds Tryd.pinned (OpenSpec.upto fnExactRecordTextSpec)

/-- 'laws.FnExactPlaceOf', WHERE WHAT IT READS IS OF BULK AT MOST 1048576: true; the input reads as it did. -/
def fnExactPlaceOfUptoRow : OpenClaim := { program := "ytfmnofjijodgcaadoor", sum := "155af229d392144bfb355317c70949df96cf7541c532125b8b3f127e8d0e1eef", func := "loop.example/g00497/laws.FnExactPlaceOf", spec := "fnExactPlaceOf", inPlace := ["internal/abi.NoEscape", "internal/bytealg.MakeNoZero", "internal/bytealg.CountString", "internal/bytealg.IndexByteString", "internal/bytealg.IndexString"], unfollowed := true, recurses := true, named := ["unicode/utf8.first", "unicode/utf8.acceptRanges", "internal/bytealg.MaxLen"], apart := false, laid := [("unicode/utf8.acceptRanges", laid_unicode_utf8_acceptRanges), ("unicode/utf8.first", laid_unicode_utf8_first)], narrowed := true }
def FnExactPlaceOfUptoSaid : Prop := fnExactPlaceOfUptoRow.holds Tryd.pinned (OpenSpec.upto fnExactPlaceOfSpec)

/-- 'laws.FnExactMsgOk', WHERE WHAT IT READS IS OF BULK AT MOST 1048576: true; the input reads as it did. -/
def fnExactMsgOkUptoRow : OpenClaim := { program := "ytfmnofjijodgcaadoor", sum := "155af229d392144bfb355317c70949df96cf7541c532125b8b3f127e8d0e1eef", func := "loop.example/g00497/laws.FnExactMsgOk", spec := "fnExactMsgOk", inPlace := ["internal/bytealg.CountString", "internal/bytealg.IndexByteString", "internal/bytealg.IndexString"], unfollowed := true, recurses := true, named := ["unicode/utf8.first", "unicode/utf8.acceptRanges", "internal/bytealg.MaxLen"], apart := false, laid := [("unicode/utf8.acceptRanges", laid_unicode_utf8_acceptRanges), ("unicode/utf8.first", laid_unicode_utf8_first)], narrowed := true }
def FnExactMsgOkUptoSaid : Prop := fnExactMsgOkUptoRow.holds Tryd.pinned (OpenSpec.upto fnExactMsgOkSpec)

/-- 'laws.FnExactSortRecords', WHERE WHAT IT READS IS OF BULK AT MOST 1048576: true; the input reads as it did. -/
def fnExactSortRecordsUptoRow : OpenClaim := { program := "ytfmnofjijodgcaadoor", sum := "155af229d392144bfb355317c70949df96cf7541c532125b8b3f127e8d0e1eef", func := "loop.example/g00497/laws.FnExactSortRecords", spec := "fnExactSortRecords", inPlace := ["internal/bytealg.CountString", "internal/bytealg.IndexByteString", "internal/bytealg.IndexString"], unfollowed := true, recurses := true, named := ["unicode/utf8.first", "unicode/utf8.acceptRanges", "internal/bytealg.MaxLen"], apart := false, laid := [("unicode/utf8.acceptRanges", laid_unicode_utf8_acceptRanges), ("unicode/utf8.first", laid_unicode_utf8_first)], narrowed := true }
def FnExactSortRecordsUptoSaid : Prop := fnExactSortRecordsUptoRow.holds Tryd.pinned (OpenSpec.upto fnExactSortRecordsSpec)

/-- 'laws.FnExactPutName', WHERE WHAT IT READS IS OF BULK AT MOST 1048576: true; the input reads as it did. -/
def fnExactPutNameUptoRow : OpenClaim := { program := "ytfmnofjijodgcaadoor", sum := "155af229d392144bfb355317c70949df96cf7541c532125b8b3f127e8d0e1eef", func := "loop.example/g00497/laws.FnExactPutName", spec := "fnExactPutName", inPlace := ["internal/bytealg.CountString", "internal/bytealg.IndexByteString", "internal/bytealg.IndexString", "internal/abi.NoEscape", "internal/bytealg.MakeNoZero"], unfollowed := true, recurses := true, named := ["unicode/utf8.first", "unicode/utf8.acceptRanges", "internal/bytealg.MaxLen"], apart := false, laid := [("unicode/utf8.acceptRanges", laid_unicode_utf8_acceptRanges), ("unicode/utf8.first", laid_unicode_utf8_first)], narrowed := true }
def FnExactPutNameUptoSaid : Prop := fnExactPutNameUptoRow.holds Tryd.pinned (OpenSpec.upto fnExactPutNameSpec)

/-- 'laws.FnExactGetData', WHERE WHAT IT READS IS OF BULK AT MOST 1048576: true; the input reads as it did. -/
def fnExactGetDataUptoRow : OpenClaim := { program := "ytfmnofjijodgcaadoor", sum := "155af229d392144bfb355317c70949df96cf7541c532125b8b3f127e8d0e1eef", func := "loop.example/g00497/laws.FnExactGetData", spec := "fnExactGetData", inPlace := ["internal/abi.NoEscape", "internal/bytealg.MakeNoZero", "internal/bytealg.CountString", "internal/bytealg.IndexByteString", "internal/bytealg.IndexString"], unfollowed := true, recurses := true, named := ["unicode/utf8.first", "unicode/utf8.acceptRanges", "internal/bytealg.MaxLen"], apart := false, laid := [("unicode/utf8.acceptRanges", laid_unicode_utf8_acceptRanges), ("unicode/utf8.first", laid_unicode_utf8_first)], narrowed := true }
def FnExactGetDataUptoSaid : Prop := fnExactGetDataUptoRow.holds Tryd.pinned (OpenSpec.upto fnExactGetDataSpec)

/-- 'laws.FnExactMsgText', WHERE WHAT IT READS IS OF BULK AT MOST 1048576: true; the input reads as it did. -/
def fnExactMsgTextUptoRow : OpenClaim := { program := "ytfmnofjijodgcaadoor", sum := "155af229d392144bfb355317c70949df96cf7541c532125b8b3f127e8d0e1eef", func := "loop.example/g00497/laws.FnExactMsgText", spec := "fnExactMsgText", inPlace := ["internal/bytealg.CountString", "internal/bytealg.IndexByteString", "internal/bytealg.IndexString", "internal/abi.NoEscape", "internal/bytealg.MakeNoZero"], unfollowed := true, recurses := true, named := ["unicode/utf8.first", "unicode/utf8.acceptRanges", "internal/bytealg.MaxLen"], apart := false, laid := [("unicode/utf8.acceptRanges", laid_unicode_utf8_acceptRanges), ("unicode/utf8.first", laid_unicode_utf8_first)], narrowed := true }
def FnExactMsgTextUptoSaid : Prop := fnExactMsgTextUptoRow.holds Tryd.pinned (OpenSpec.upto fnExactMsgTextSpec)

/-- 'laws.FnExactGetRecord', WHERE WHAT IT READS IS OF BULK AT MOST 1048576: true; the input reads as it did. -/
def fnExactGetRecordUptoRow : OpenClaim := { program := "ytfmnofjijodgcaadoor", sum := "155af229d392144bfb355317c70949df96cf7541c532125b8b3f127e8d0e1eef", func := "loop.example/g00497/laws.FnExactGetRecord", spec := "fnExactGetRecord", inPlace := ["internal/abi.NoEscape", "internal/bytealg.MakeNoZero", "internal/bytealg.CountString", "internal/bytealg.IndexByteString", "internal/bytealg.IndexString"], unfollowed := true, recurses := true, named := ["unicode/utf8.first", "unicode/utf8.acceptRanges", "internal/bytealg.MaxLen"], apart := false, laid := [("unicode/utf8.acceptRanges", laid_unicode_utf8_acceptRanges), ("unicode/utf8.first", laid_unicode_utf8_first)], narrowed := true }
def FnExactGetRecordUptoSaid : Prop := fnExactGetRecordUptoRow.holds Tryd.pinned (OpenSpec.upto fnExactGetRecordSpec)

/-- 'laws.FnExactPutRecord', WHERE WHAT IT READS IS OF BULK AT MOST 1048576: true; the input reads as it did. -/
def fnExactPutRecordUptoRow : OpenClaim := { program := "ytfmnofjijodgcaadoor", sum := "155af229d392144bfb355317c70949df96cf7541c532125b8b3f127e8d0e1eef", func := "loop.example/g00497/laws.FnExactPutRecord", spec := "fnExactPutRecord", inPlace := ["internal/bytealg.CountString", "internal/bytealg.IndexByteString", "internal/bytealg.IndexString", "internal/abi.NoEscape", "internal/bytealg.MakeNoZero"], unfollowed := true, recurses := true, named := ["unicode/utf8.first", "unicode/utf8.acceptRanges", "internal/bytealg.MaxLen"], apart := false, laid := [("unicode/utf8.acceptRanges", laid_unicode_utf8_acceptRanges), ("unicode/utf8.first", laid_unicode_utf8_first)], narrowed := true }
def FnExactPutRecordUptoSaid : Prop := fnExactPutRecordUptoRow.holds Tryd.pinned (OpenSpec.upto fnExactPutRecordSpec)

/-- 'laws.FnExactGetRecords', WHERE WHAT IT READS IS OF BULK AT MOST 1048576: true; the input reads as it did. -/
def fnExactGetRecordsUptoRow : OpenClaim := { program := "ytfmnofjijodgcaadoor", sum := "155af229d392144bfb355317c70949df96cf7541c532125b8b3f127e8d0e1eef", func := "loop.example/g00497/laws.FnExactGetRecords", spec := "fnExactGetRecords", inPlace := ["internal/abi.NoEscape", "internal/bytealg.MakeNoZero", "internal/bytealg.CountString", "internal/bytealg.IndexByteString", "internal/bytealg.IndexString"], unfollowed := true, recurses := true, named := ["unicode/utf8.first", "unicode/utf8.acceptRanges", "internal/bytealg.MaxLen"], apart := false, laid := [("unicode/utf8.acceptRanges", laid_unicode_utf8_acceptRanges), ("unicode/utf8.first", laid_unicode_utf8_first)], narrowed := true }
def FnExactGetRecordsUptoSaid : Prop := fnExactGetRecordsUptoRow.holds Tryd.pinned (OpenSpec.upto fnExactGetRecordsSpec)

end Rows
end Go.Proofs.YtfmnofjijodgcaaDoor
