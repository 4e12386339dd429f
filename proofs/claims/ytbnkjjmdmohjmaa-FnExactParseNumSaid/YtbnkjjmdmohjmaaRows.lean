/-
  No cell of these rows narrows 'for every input' (looked for: loops, veiled, ifaces, maps, wideKeys, modest, calm, conditions, laid).
  DERIVED. THE GIVEN ROWS OF THIS SEAT. 12 by the template 'for every input the law returns true; each argument reads behind the call as it read before'; 0 by the template 'total and deterministic' (their statements: YtbnkjjmdmohjmaaTotals.lean).
  GIVEN WITH THE SEED: the statements are not yours to turn. If you find one false, say at which input.
  Laid BY PROGRAM, IN A SANDBOX (cutbox-rows.mjs): the forced cells as the released guide's own fill.sh prints them over the translation 07ce8473194e71f4… (all of the seat's roots in one cut). By AI agents, Wed Nov 11 2026. No macro, syntax, notation, axiom, sorry.
-/
import Derived.Test.YtbnkjjmdmohjmaaChecked
import GoSem.Claim
import GoSem.ClaimJoined
import GoSem.ClaimMapViews
import Derived.JoinedTies
import Derived.KernelRfl
namespace Go.Proofs.Ytbnkjjmdmohjmaa
/- THE CELL 'sum', in the pinned program and in every row, IS THE sha256 OF THE DUMP (.gsa) THAT YtbnkjjmdmohjmaaProg.lean LOADS. Nothing in Lean hashes anything: it is a label: what it is worth is what the hold of that sum in a sandbox is worth. -/
noncomputable def Try.pinned : Pinned := { name := "ytbnkjjmdmohjmaa", sum := "07ce8473194e71f400150ec55107ef1c03cf11a28149442aec10e6cfb795f111", checked := Try.checked }
namespace Rows
def none {H : Type} : Left H := { results := [], args := [] }

/-- 'laws.FnExactConstants': WHATEVER THE INPUT: true; the input reads as it did. -/
def fnExactConstantsSpec : ChangeSpec := { name := "fnExactConstants", fn := fun _ => fun
  | [] => { results := [.lit (.bool true)], args := [] }
  | _ => none }
def fnExactConstantsRow : OpenClaim := { program := "ytbnkjjmdmohjmaa", sum := "07ce8473194e71f400150ec55107ef1c03cf11a28149442aec10e6cfb795f111", func := "loop.example/g00497/laws.FnExactConstants", spec := "fnExactConstants", apart := false }
def FnExactConstantsSaid : Prop := fnExactConstantsRow.holds Try.pinned (OpenSpec.ofChange fnExactConstantsSpec)

/-- ITS FALSE NEIGHBOUR: 'it returns false'. Refute it at one input. -/
def fnExactConstantsWrong : ChangeSpec := { name := "fnExactConstants", fn := fun _ => fun
  | [] => { results := [.lit (.bool false)], args := [] }
  | _ => none }
def FnExactConstantsWrongFalsely : Prop := fnExactConstantsRow.holds Try.pinned (OpenSpec.ofChange fnExactConstantsWrong)

/-- 'laws.FnExactLeast': WHATEVER THE INPUT: true; the input reads as it did. -/
def fnExactLeastSpec : ChangeSpec := { name := "fnExactLeast", fn := fun _ => fun
  | [d1, d2] => { results := [.lit (.bool true)], args := [d1, d2] }
  | _ => none }
def fnExactLeastRow : OpenClaim := { program := "ytbnkjjmdmohjmaa", sum := "07ce8473194e71f400150ec55107ef1c03cf11a28149442aec10e6cfb795f111", func := "loop.example/g00497/laws.FnExactLeast", spec := "fnExactLeast", apart := false }
def FnExactLeastSaid : Prop := fnExactLeastRow.holds Try.pinned (OpenSpec.ofChange fnExactLeastSpec)

/-- ITS FALSE NEIGHBOUR: 'it returns false'. Refute it at one input. -/
def fnExactLeastWrong : ChangeSpec := { name := "fnExactLeast", fn := fun _ => fun
  | [d1, d2] => { results := [.lit (.bool false)], args := [d1, d2] }
  | _ => none }
def FnExactLeastWrongFalsely : Prop := fnExactLeastRow.holds Try.pinned (OpenSpec.ofChange fnExactLeastWrong)

/-- 'laws.FnExactMost': WHATEVER THE INPUT: true; the input reads as it did. -/
def fnExactMostSpec : ChangeSpec := { name := "fnExactMost", fn := fun _ => fun
  | [d1, d2] => { results := [.lit (.bool true)], args := [d1, d2] }
  | _ => none }
def fnExactMostRow : OpenClaim := { program := "ytbnkjjmdmohjmaa", sum := "07ce8473194e71f400150ec55107ef1c03cf11a28149442aec10e6cfb795f111", func := "loop.example/g00497/laws.FnExactMost", spec := "fnExactMost", apart := false }
def FnExactMostSaid : Prop := fnExactMostRow.holds Try.pinned (OpenSpec.ofChange fnExactMostSpec)

/-- ITS FALSE NEIGHBOUR: 'it returns false'. Refute it at one input. -/
def fnExactMostWrong : ChangeSpec := { name := "fnExactMost", fn := fun _ => fun
  | [d1, d2] => { results := [.lit (.bool false)], args := [d1, d2] }
  | _ => none }
def FnExactMostWrongFalsely : Prop := fnExactMostRow.holds Try.pinned (OpenSpec.ofChange fnExactMostWrong)

/-- 'laws.FnExactFold': WHATEVER THE INPUT: true; the input reads as it did. -/
def fnExactFoldSpec : ChangeSpec := { name := "fnExactFold", fn := fun _ => fun
  | [d] => { results := [.lit (.bool true)], args := [d] }
  | _ => none }
def fnExactFoldRow : OpenClaim := { program := "ytbnkjjmdmohjmaa", sum := "07ce8473194e71f400150ec55107ef1c03cf11a28149442aec10e6cfb795f111", func := "loop.example/g00497/laws.FnExactFold", spec := "fnExactFold", apart := false }
def FnExactFoldSaid : Prop := fnExactFoldRow.holds Try.pinned (OpenSpec.ofChange fnExactFoldSpec)

/-- ITS FALSE NEIGHBOUR: 'it returns false'. Refute it at one input. -/
def fnExactFoldWrong : ChangeSpec := { name := "fnExactFold", fn := fun _ => fun
  | [d] => { results := [.lit (.bool false)], args := [d] }
  | _ => none }
def FnExactFoldWrongFalsely : Prop := fnExactFoldRow.holds Try.pinned (OpenSpec.ofChange fnExactFoldWrong)

/-- 'laws.FnExactTypeOk': WHATEVER THE INPUT: true; the input reads as it did. -/
def fnExactTypeOkSpec : ChangeSpec := { name := "fnExactTypeOk", fn := fun _ => fun
  | [d] => { results := [.lit (.bool true)], args := [d] }
  | _ => none }
def fnExactTypeOkRow : OpenClaim := { program := "ytbnkjjmdmohjmaa", sum := "07ce8473194e71f400150ec55107ef1c03cf11a28149442aec10e6cfb795f111", func := "loop.example/g00497/laws.FnExactTypeOk", spec := "fnExactTypeOk", apart := false }
def FnExactTypeOkSaid : Prop := fnExactTypeOkRow.holds Try.pinned (OpenSpec.ofChange fnExactTypeOkSpec)

/-- ITS FALSE NEIGHBOUR: 'it returns false'. Refute it at one input. -/
def fnExactTypeOkWrong : ChangeSpec := { name := "fnExactTypeOk", fn := fun _ => fun
  | [d] => { results := [.lit (.bool false)], args := [d] }
  | _ => none }
def FnExactTypeOkWrongFalsely : Prop := fnExactTypeOkRow.holds Try.pinned (OpenSpec.ofChange fnExactTypeOkWrong)

/-- 'laws.FnExactLabelOk': WHATEVER THE INPUT: true; the input reads as it did. -/
def fnExactLabelOkSpec : ChangeSpec := { name := "fnExactLabelOk", fn := fun _ => fun
  | [d] => { results := [.lit (.bool true)], args := [d] }
  | _ => none }
def fnExactLabelOkRow : OpenClaim := { program := "ytbnkjjmdmohjmaa", sum := "07ce8473194e71f400150ec55107ef1c03cf11a28149442aec10e6cfb795f111", func := "loop.example/g00497/laws.FnExactLabelOk", spec := "fnExactLabelOk", apart := false }
def FnExactLabelOkSaid : Prop := fnExactLabelOkRow.holds Try.pinned (OpenSpec.ofChange fnExactLabelOkSpec)

/-- ITS FALSE NEIGHBOUR: 'it returns false'. Refute it at one input. -/
def fnExactLabelOkWrong : ChangeSpec := { name := "fnExactLabelOk", fn := fun _ => fun
  | [d] => { results := [.lit (.bool false)], args := [d] }
  | _ => none }
def FnExactLabelOkWrongFalsely : Prop := fnExactLabelOkRow.holds Try.pinned (OpenSpec.ofChange fnExactLabelOkWrong)

/-- 'laws.FnExactCodeName': WHATEVER THE INPUT: true; the input reads as it did. -/
def fnExactCodeNameSpec : ChangeSpec := { name := "fnExactCodeName", fn := fun _ => fun
  | [d] => { results := [.lit (.bool true)], args := [d] }
  | _ => none }
def fnExactCodeNameRow : OpenClaim := { program := "ytbnkjjmdmohjmaa", sum := "07ce8473194e71f400150ec55107ef1c03cf11a28149442aec10e6cfb795f111", func := "loop.example/g00497/laws.FnExactCodeName", spec := "fnExactCodeName", apart := false }
def FnExactCodeNameSaid : Prop := fnExactCodeNameRow.holds Try.pinned (OpenSpec.ofChange fnExactCodeNameSpec)

/-- ITS FALSE NEIGHBOUR: 'it returns false'. Refute it at one input. -/
def fnExactCodeNameWrong : ChangeSpec := { name := "fnExactCodeName", fn := fun _ => fun
  | [d] => { results := [.lit (.bool false)], args := [d] }
  | _ => none }
def FnExactCodeNameWrongFalsely : Prop := fnExactCodeNameRow.holds Try.pinned (OpenSpec.ofChange fnExactCodeNameWrong)

/-- 'laws.FnExactNumText': WHATEVER THE INPUT: true; the input reads as it did. -/
def fnExactNumTextSpec : ChangeSpec := { name := "fnExactNumText", fn := fun _ => fun
  | [d] => { results := [.lit (.bool true)], args := [d] }
  | _ => none }
def fnExactNumTextRow : OpenClaim := { program := "ytbnkjjmdmohjmaa", sum := "07ce8473194e71f400150ec55107ef1c03cf11a28149442aec10e6cfb795f111", func := "loop.example/g00497/laws.FnExactNumText", spec := "fnExactNumText", recurses := true, apart := false }
def FnExactNumTextSaid : Prop := fnExactNumTextRow.holds Try.pinned (OpenSpec.ofChange fnExactNumTextSpec)

/-- ITS FALSE NEIGHBOUR: 'it returns false'. Refute it at one input. -/
def fnExactNumTextWrong : ChangeSpec := { name := "fnExactNumText", fn := fun _ => fun
  | [d] => { results := [.lit (.bool false)], args := [d] }
  | _ => none }
def FnExactNumTextWrongFalsely : Prop := fnExactNumTextRow.holds Try.pinned (OpenSpec.ofChange fnExactNumTextWrong)

/-- 'laws.FnExactTypeText': WHATEVER THE INPUT: true; the input reads as it did. -/
def fnExactTypeTextSpec : ChangeSpec := { name := "fnExactTypeText", fn := fun _ => fun
  | [d] => { results := [.lit (.bool true)], args := [d] }
  | _ => none }
def fnExactTypeTextRow : OpenClaim := { program := "ytbnkjjmdmohjmaa", sum := "07ce8473194e71f400150ec55107ef1c03cf11a28149442aec10e6cfb795f111", func := "loop.example/g00497/laws.FnExactTypeText", spec := "fnExactTypeText", apart := false }
def FnExactTypeTextSaid : Prop := fnExactTypeTextRow.holds Try.pinned (OpenSpec.ofChange fnExactTypeTextSpec)

/-- ITS FALSE NEIGHBOUR: 'it returns false'. Refute it at one input. -/
def fnExactTypeTextWrong : ChangeSpec := { name := "fnExactTypeText", fn := fun _ => fun
  | [d] => { results := [.lit (.bool false)], args := [d] }
  | _ => none }
def FnExactTypeTextWrongFalsely : Prop := fnExactTypeTextRow.holds Try.pinned (OpenSpec.ofChange fnExactTypeTextWrong)

/-- 'laws.FnExactGet2': WHATEVER THE INPUT: true; the input reads as it did. -/
def fnExactGet2Spec : ChangeSpec := { name := "fnExactGet2", fn := fun _ => fun
  | [d1, d2] => { results := [.lit (.bool true)], args := [d1, d2] }
  | _ => none }
def fnExactGet2Row : OpenClaim := { program := "ytbnkjjmdmohjmaa", sum := "07ce8473194e71f400150ec55107ef1c03cf11a28149442aec10e6cfb795f111", func := "loop.example/g00497/laws.FnExactGet2", spec := "fnExactGet2", apart := false }
def FnExactGet2Said : Prop := fnExactGet2Row.holds Try.pinned (OpenSpec.ofChange fnExactGet2Spec)

/-- ITS FALSE NEIGHBOUR: 'it returns false'. Refute it at one input. -/
def fnExactGet2Wrong : ChangeSpec := { name := "fnExactGet2", fn := fun _ => fun
  | [d1, d2] => { results := [.lit (.bool false)], args := [d1, d2] }
  | _ => none }
def FnExactGet2WrongFalsely : Prop := fnExactGet2Row.holds Try.pinned (OpenSpec.ofChange fnExactGet2Wrong)

/-- 'laws.FnExactGet4': WHATEVER THE INPUT: true; the input reads as it did. -/
def fnExactGet4Spec : ChangeSpec := { name := "fnExactGet4", fn := fun _ => fun
  | [d1, d2] => { results := [.lit (.bool true)], args := [d1, d2] }
  | _ => none }
def fnExactGet4Row : OpenClaim := { program := "ytbnkjjmdmohjmaa", sum := "07ce8473194e71f400150ec55107ef1c03cf11a28149442aec10e6cfb795f111", func := "loop.example/g00497/laws.FnExactGet4", spec := "fnExactGet4", apart := false }
def FnExactGet4Said : Prop := fnExactGet4Row.holds Try.pinned (OpenSpec.ofChange fnExactGet4Spec)

/-- ITS FALSE NEIGHBOUR: 'it returns false'. Refute it at one input. -/
def fnExactGet4Wrong : ChangeSpec := { name := "fnExactGet4", fn := fun _ => fun
  | [d1, d2] => { results := [.lit (.bool false)], args := [d1, d2] }
  | _ => none }
def FnExactGet4WrongFalsely : Prop := fnExactGet4Row.holds Try.pinned (OpenSpec.ofChange fnExactGet4Wrong)

/-- 'laws.FnExactParseNum': WHATEVER THE INPUT: true; the input reads as it did. -/
def fnExactParseNumSpec : ChangeSpec := { name := "fnExactParseNum", fn := fun _ => fun
  | [d] => { results := [.lit (.bool true)], args := [d] }
  | _ => none }
def fnExactParseNumRow : OpenClaim := { program := "ytbnkjjmdmohjmaa", sum := "07ce8473194e71f400150ec55107ef1c03cf11a28149442aec10e6cfb795f111", func := "loop.example/g00497/laws.FnExactParseNum", spec := "fnExactParseNum", recurses := true, apart := false }
def FnExactParseNumSaid : Prop := fnExactParseNumRow.holds Try.pinned (OpenSpec.ofChange fnExactParseNumSpec)

/-- ITS FALSE NEIGHBOUR: 'it returns false'. Refute it at one input. -/
def fnExactParseNumWrong : ChangeSpec := { name := "fnExactParseNum", fn := fun _ => fun
  | [d] => { results := [.lit (.bool false)], args := [d] }
  | _ => none }
def FnExactParseNumWrongFalsely : Prop := fnExactParseNumRow.holds Try.pinned (OpenSpec.ofChange fnExactParseNumWrong)

/- THE SECOND FORM. 'bulk': how many values and letters a reading holds, each counted each time it is reached (what is shared counts as often as it is met; a slice's spare places count too). A statement '..UptoSaid' is the law's where the arguments, and the package variables that the reading takes, are together of bulk at most 1048576: NARROWER than '..Said'. Prove '..Said' where nothing that the law and all that it calls make is longer than what came in: it says more and counts as full. Else prove '..UptoSaid'. A law counts once. -/
mutual
def uptoBulk {H : Type} : DataW H → Nat
  | .lit (.string bytes) => bytes.length + 1
  | .lit _ => 1
  | .nil => 1
  | .ptr d => uptoBulk d + 1
  | .slice elems spare => uptoBulkAll elems + uptoBulkAll spare + 1
  | .agg parts => uptoBulkAll parts + 1
  | .iface _ d => uptoBulk d + 1
  | .map entries => uptoBulkEntries entries + 1
  | .held _ => 1
def uptoBulkAll {H : Type} : List (DataW H) → Nat
  | [] => 0
  | d :: r => uptoBulk d + uptoBulkAll r
def uptoBulkEntries {H : Type} : List (Lit × DataW H) → Nat
  | [] => 0
  | x :: r => uptoBulkEntry x + uptoBulkEntries r
def uptoBulkEntry {H : Type} : Lit × DataW H → Nat
  | (.string bytes, d) => bytes.length + uptoBulk d + 1
  | (_, d) => uptoBulk d + 1
 end
def uptoSmall : (H : Type) → List (DataW H) → Bool := fun _ ds => decide (uptoBulkAll ds ≤ 1048576)
def OpenSpec.upto (s : _root_.Go.ChangeSpec) : _root_.Go.OpenSpec := { _root_.Go.OpenSpec.ofChange s with cond := some uptoSmall }

/-- 'laws.FnExactConstants', WHERE WHAT IT READS IS OF BULK AT MOST 1048576: true; the input reads as it did. -/
def fnExactConstantsUptoRow : OpenClaim := { program := "ytbnkjjmdmohjmaa", sum := "07ce8473194e71f400150ec55107ef1c03cf11a28149442aec10e6cfb795f111", func := "loop.example/g00497/laws.FnExactConstants", spec := "fnExactConstants", apart := false, narrowed := true }
def FnExactConstantsUptoSaid : Prop := fnExactConstantsUptoRow.holds Try.pinned (OpenSpec.upto fnExactConstantsSpec)

/-- 'laws.FnExactLeast', WHERE WHAT IT READS IS OF BULK AT MOST 1048576: true; the input reads as it did. -/
def fnExactLeastUptoRow : OpenClaim := { program := "ytbnkjjmdmohjmaa", sum := "07ce8473194e71f400150ec55107ef1c03cf11a28149442aec10e6cfb795f111", func := "loop.example/g00497/laws.FnExactLeast", spec := "fnExactLeast", apart := false, narrowed := true }
def FnExactLeastUptoSaid : Prop := fnExactLeastUptoRow.holds Try.pinned (OpenSpec.upto fnExactLeastSpec)

/-- 'laws.FnExactMost', WHERE WHAT IT READS IS OF BULK AT MOST 1048576: true; the input reads as it did. -/
def fnExactMostUptoRow : OpenClaim := { program := "ytbnkjjmdmohjmaa", sum := "07ce8473194e71f400150ec55107ef1c03cf11a28149442aec10e6cfb795f111", func := "loop.example/g00497/laws.FnExactMost", spec := "fnExactMost", apart := false, narrowed := true }
def FnExactMostUptoSaid : Prop := fnExactMostUptoRow.holds Try.pinned (OpenSpec.upto fnExactMostSpec)

/-- 'laws.FnExactFold', WHERE WHAT IT READS IS OF BULK AT MOST 1048576: true; the input reads as it did. -/
def fnExactFoldUptoRow : OpenClaim := { program := "ytbnkjjmdmohjmaa", sum := "07ce8473194e71f400150ec55107ef1c03cf11a28149442aec10e6cfb795f111", func := "loop.example/g00497/laws.FnExactFold", spec := "fnExactFold", apart := false, narrowed := true }
def FnExactFoldUptoSaid : Prop := fnExactFoldUptoRow.holds Try.pinned (OpenSpec.upto fnExactFoldSpec)

/-- 'laws.FnExactTypeOk', WHERE WHAT IT READS IS OF BULK AT MOST 1048576: true; the input reads as it did. -/
def fnExactTypeOkUptoRow : OpenClaim := { program := "ytbnkjjmdmohjmaa", sum := "07ce8473194e71f400150ec55107ef1c03cf11a28149442aec10e6cfb795f111", func := "loop.example/g00497/laws.FnExactTypeOk", spec := "fnExactTypeOk", apart := false, narrowed := true }
def FnExactTypeOkUptoSaid : Prop := fnExactTypeOkUptoRow.holds Try.pinned (OpenSpec.upto fnExactTypeOkSpec)

/-- 'laws.FnExactLabelOk', WHERE WHAT IT READS IS OF BULK AT MOST 1048576: true; the input reads as it did. -/
def fnExactLabelOkUptoRow : OpenClaim := { program := "ytbnkjjmdmohjmaa", sum := "07ce8473194e71f400150ec55107ef1c03cf11a28149442aec10e6cfb795f111", func := "loop.example/g00497/laws.FnExactLabelOk", spec := "fnExactLabelOk", apart := false, narrowed := true }
def FnExactLabelOkUptoSaid : Prop := fnExactLabelOkUptoRow.holds Try.pinned (OpenSpec.upto fnExactLabelOkSpec)

/-- 'laws.FnExactCodeName', WHERE WHAT IT READS IS OF BULK AT MOST 1048576: true; the input reads as it did. -/
def fnExactCodeNameUptoRow : OpenClaim := { program := "ytbnkjjmdmohjmaa", sum := "07ce8473194e71f400150ec55107ef1c03cf11a28149442aec10e6cfb795f111", func := "loop.example/g00497/laws.FnExactCodeName", spec := "fnExactCodeName", apart := false, narrowed := true }
def FnExactCodeNameUptoSaid : Prop := fnExactCodeNameUptoRow.holds Try.pinned (OpenSpec.upto fnExactCodeNameSpec)

/-- 'laws.FnExactNumText', WHERE WHAT IT READS IS OF BULK AT MOST 1048576: true; the input reads as it did. -/
def fnExactNumTextUptoRow : OpenClaim := { program := "ytbnkjjmdmohjmaa", sum := "07ce8473194e71f400150ec55107ef1c03cf11a28149442aec10e6cfb795f111", func := "loop.example/g00497/laws.FnExactNumText", spec := "fnExactNumText", recurses := true, apart := false, narrowed := true }
def FnExactNumTextUptoSaid : Prop := fnExactNumTextUptoRow.holds Try.pinned (OpenSpec.upto fnExactNumTextSpec)

/-- 'laws.FnExactTypeText', WHERE WHAT IT READS IS OF BULK AT MOST 1048576: true; the input reads as it did. -/
def fnExactTypeTextUptoRow : OpenClaim := { program := "ytbnkjjmdmohjmaa", sum := "07ce8473194e71f400150ec55107ef1c03cf11a28149442aec10e6cfb795f111", func := "loop.example/g00497/laws.FnExactTypeText", spec := "fnExactTypeText", apart := false, narrowed := true }
def FnExactTypeTextUptoSaid : Prop := fnExactTypeTextUptoRow.holds Try.pinned (OpenSpec.upto fnExactTypeTextSpec)

/-- 'laws.FnExactGet2', WHERE WHAT IT READS IS OF BULK AT MOST 1048576: true; the input reads as it did. -/
def fnExactGet2UptoRow : OpenClaim := { program := "ytbnkjjmdmohjmaa", sum := "07ce8473194e71f400150ec55107ef1c03cf11a28149442aec10e6cfb795f111", func := "loop.example/g00497/laws.FnExactGet2", spec := "fnExactGet2", apart := false, narrowed := true }
def FnExactGet2UptoSaid : Prop := fnExactGet2UptoRow.holds Try.pinned (OpenSpec.upto fnExactGet2Spec)

/-- 'laws.FnExactGet4', WHERE WHAT IT READS IS OF BULK AT MOST 1048576: true; the input reads as it did. -/
def fnExactGet4UptoRow : OpenClaim := { program := "ytbnkjjmdmohjmaa", sum := "07ce8473194e71f400150ec55107ef1c03cf11a28149442aec10e6cfb795f111", func := "loop.example/g00497/laws.FnExactGet4", spec := "fnExactGet4", apart := false, narrowed := true }
def FnExactGet4UptoSaid : Prop := fnExactGet4UptoRow.holds Try.pinned (OpenSpec.upto fnExactGet4Spec)

/-- 'laws.FnExactParseNum', WHERE WHAT IT READS IS OF BULK AT MOST 1048576: true; the input reads as it did. -/
def fnExactParseNumUptoRow : OpenClaim := { program := "ytbnkjjmdmohjmaa", sum := "07ce8473194e71f400150ec55107ef1c03cf11a28149442aec10e6cfb795f111", func := "loop.example/g00497/laws.FnExactParseNum", spec := "fnExactParseNum", recurses := true, apart := false, narrowed := true }
def FnExactParseNumUptoSaid : Prop := fnExactParseNumUptoRow.holds Try.pinned (OpenSpec.upto fnExactParseNumSpec)

end Rows
end Go.Proofs.Ytbnkjjmdmohjmaa
