/-
  No cell of these rows narrows 'for every input' (looked for: loops, veiled, ifaces, maps, wideKeys, modest, calm, conditions, laid).
  DERIVED. THE GIVEN ROWS OF THIS SEAT. 10 by the template 'for every input the law returns true; each argument reads behind the call as it read before'; 0 by the template 'total and deterministic' (their statements: YtmniijljolchjaaTotals.lean).
  GIVEN WITH THE SEED: the statements are not yours to turn. If you find one false, say at which input.
  Laid BY PROGRAM, IN A SANDBOX (cutbox-rows.mjs): the forced cells as the released guide's own fill.sh prints them over the translation bb07c9ba5fff7888… (all of the seat's roots in one cut). By AI agents, Wed Nov 11 2026. No macro, syntax, notation, axiom, sorry.
-/
import Derived.Test.YtmniijljolchjaaChecked
import GoSem.Claim
import GoSem.ClaimJoined
import GoSem.ClaimMapViews
import Derived.JoinedTies
import Derived.KernelRfl
namespace Go.Proofs.Ytmniijljolchjaa
/- THE CELL 'sum', in the pinned program and in every row, IS THE sha256 OF THE DUMP (.gsa) THAT YtmniijljolchjaaProg.lean LOADS. Nothing in Lean hashes anything: it is a label: what it is worth is what the hold of that sum in a sandbox is worth. -/
noncomputable def Try.pinned : Pinned := { name := "ytmniijljolchjaa", sum := "bb07c9ba5fff7888688ee1966129d0c133fe235c32d0c68bb86bce3e5595f6a4", checked := Try.checked }
namespace Rows
def none {H : Type} : Left H := { results := [], args := [] }

/-- 'laws.FnExactPut2': WHATEVER THE INPUT: true; the input reads as it did. -/
def fnExactPut2Spec : ChangeSpec := { name := "fnExactPut2", fn := fun _ => fun
  | [d1, d2] => { results := [.lit (.bool true)], args := [d1, d2] }
  | _ => none }
def fnExactPut2Row : OpenClaim := { program := "ytmniijljolchjaa", sum := "bb07c9ba5fff7888688ee1966129d0c133fe235c32d0c68bb86bce3e5595f6a4", func := "loop.example/g00497/laws.FnExactPut2", spec := "fnExactPut2", apart := false }
def FnExactPut2Said : Prop := fnExactPut2Row.holds Try.pinned (OpenSpec.ofChange fnExactPut2Spec)

/-- ITS FALSE NEIGHBOUR: 'it returns false'. Refute it at one input. -/
def fnExactPut2Wrong : ChangeSpec := { name := "fnExactPut2", fn := fun _ => fun
  | [d1, d2] => { results := [.lit (.bool false)], args := [d1, d2] }
  | _ => none }
def FnExactPut2WrongFalsely : Prop := fnExactPut2Row.holds Try.pinned (OpenSpec.ofChange fnExactPut2Wrong)

/-- 'laws.FnExactPut4': WHATEVER THE INPUT: true; the input reads as it did. -/
def fnExactPut4Spec : ChangeSpec := { name := "fnExactPut4", fn := fun _ => fun
  | [d1, d2] => { results := [.lit (.bool true)], args := [d1, d2] }
  | _ => none }
def fnExactPut4Row : OpenClaim := { program := "ytmniijljolchjaa", sum := "bb07c9ba5fff7888688ee1966129d0c133fe235c32d0c68bb86bce3e5595f6a4", func := "loop.example/g00497/laws.FnExactPut4", spec := "fnExactPut4", apart := false }
def FnExactPut4Said : Prop := fnExactPut4Row.holds Try.pinned (OpenSpec.ofChange fnExactPut4Spec)

/-- ITS FALSE NEIGHBOUR: 'it returns false'. Refute it at one input. -/
def fnExactPut4Wrong : ChangeSpec := { name := "fnExactPut4", fn := fun _ => fun
  | [d1, d2] => { results := [.lit (.bool false)], args := [d1, d2] }
  | _ => none }
def FnExactPut4WrongFalsely : Prop := fnExactPut4Row.holds Try.pinned (OpenSpec.ofChange fnExactPut4Wrong)

/-- 'laws.FnExactPutLabel': WHATEVER THE INPUT: true; the input reads as it did. -/
def fnExactPutLabelSpec : ChangeSpec := { name := "fnExactPutLabel", fn := fun _ => fun
  | [d1, d2] => { results := [.lit (.bool true)], args := [d1, d2] }
  | _ => none }
def fnExactPutLabelRow : OpenClaim := { program := "ytmniijljolchjaa", sum := "bb07c9ba5fff7888688ee1966129d0c133fe235c32d0c68bb86bce3e5595f6a4", func := "loop.example/g00497/laws.FnExactPutLabel", spec := "fnExactPutLabel", apart := false }
def FnExactPutLabelSaid : Prop := fnExactPutLabelRow.holds Try.pinned (OpenSpec.ofChange fnExactPutLabelSpec)

/-- ITS FALSE NEIGHBOUR: 'it returns false'. Refute it at one input. -/
def fnExactPutLabelWrong : ChangeSpec := { name := "fnExactPutLabel", fn := fun _ => fun
  | [d1, d2] => { results := [.lit (.bool false)], args := [d1, d2] }
  | _ => none }
def FnExactPutLabelWrongFalsely : Prop := fnExactPutLabelRow.holds Try.pinned (OpenSpec.ofChange fnExactPutLabelWrong)

/-- 'laws.FnExactGetLabel': WHATEVER THE INPUT: true; the input reads as it did. -/
def fnExactGetLabelSpec : ChangeSpec := { name := "fnExactGetLabel", fn := fun _ => fun
  | [d1, d2] => { results := [.lit (.bool true)], args := [d1, d2] }
  | _ => none }
def fnExactGetLabelRow : OpenClaim := { program := "ytmniijljolchjaa", sum := "bb07c9ba5fff7888688ee1966129d0c133fe235c32d0c68bb86bce3e5595f6a4", func := "loop.example/g00497/laws.FnExactGetLabel", spec := "fnExactGetLabel", apart := false }
def FnExactGetLabelSaid : Prop := fnExactGetLabelRow.holds Try.pinned (OpenSpec.ofChange fnExactGetLabelSpec)

/-- ITS FALSE NEIGHBOUR: 'it returns false'. Refute it at one input. -/
def fnExactGetLabelWrong : ChangeSpec := { name := "fnExactGetLabel", fn := fun _ => fun
  | [d1, d2] => { results := [.lit (.bool false)], args := [d1, d2] }
  | _ => none }
def FnExactGetLabelWrongFalsely : Prop := fnExactGetLabelRow.holds Try.pinned (OpenSpec.ofChange fnExactGetLabelWrong)

/-- 'laws.FnExactSameRecords': WHATEVER THE INPUT: true; the input reads as it did. -/
def fnExactSameRecordsSpec : ChangeSpec := { name := "fnExactSameRecords", fn := fun _ => fun
  | [d1, d2] => { results := [.lit (.bool true)], args := [d1, d2] }
  | _ => none }
def fnExactSameRecordsRow : OpenClaim := { program := "ytmniijljolchjaa", sum := "bb07c9ba5fff7888688ee1966129d0c133fe235c32d0c68bb86bce3e5595f6a4", func := "loop.example/g00497/laws.FnExactSameRecords", spec := "fnExactSameRecords", apart := false }
def FnExactSameRecordsSaid : Prop := fnExactSameRecordsRow.holds Try.pinned (OpenSpec.ofChange fnExactSameRecordsSpec)

/-- ITS FALSE NEIGHBOUR: 'it returns false'. Refute it at one input. -/
def fnExactSameRecordsWrong : ChangeSpec := { name := "fnExactSameRecords", fn := fun _ => fun
  | [d1, d2] => { results := [.lit (.bool false)], args := [d1, d2] }
  | _ => none }
def FnExactSameRecordsWrongFalsely : Prop := fnExactSameRecordsRow.holds Try.pinned (OpenSpec.ofChange fnExactSameRecordsWrong)

/-- 'laws.FnExactJoinLabels': WHATEVER THE INPUT: true; the input reads as it did. -/
def fnExactJoinLabelsSpec : ChangeSpec := { name := "fnExactJoinLabels", fn := fun _ => fun
  | [d] => { results := [.lit (.bool true)], args := [d] }
  | _ => none }
def fnExactJoinLabelsRow : OpenClaim := { program := "ytmniijljolchjaa", sum := "bb07c9ba5fff7888688ee1966129d0c133fe235c32d0c68bb86bce3e5595f6a4", func := "loop.example/g00497/laws.FnExactJoinLabels", spec := "fnExactJoinLabels", inPlace := ["internal/abi.NoEscape", "internal/bytealg.MakeNoZero"], apart := false }
def FnExactJoinLabelsSaid : Prop := fnExactJoinLabelsRow.holds Try.pinned (OpenSpec.ofChange fnExactJoinLabelsSpec)

/-- ITS FALSE NEIGHBOUR: 'it returns false'. Refute it at one input. -/
def fnExactJoinLabelsWrong : ChangeSpec := { name := "fnExactJoinLabels", fn := fun _ => fun
  | [d] => { results := [.lit (.bool false)], args := [d] }
  | _ => none }
def FnExactJoinLabelsWrongFalsely : Prop := fnExactJoinLabelsRow.holds Try.pinned (OpenSpec.ofChange fnExactJoinLabelsWrong)

/-- 'laws.FnExactAskMsg': WHATEVER THE INPUT: true; the input reads as it did. -/
def fnExactAskMsgSpec : ChangeSpec := { name := "fnExactAskMsg", fn := fun _ => fun
  | [d1, d2] => { results := [.lit (.bool true)], args := [d1, d2] }
  | _ => none }
def fnExactAskMsgRow : OpenClaim := { program := "ytmniijljolchjaa", sum := "bb07c9ba5fff7888688ee1966129d0c133fe235c32d0c68bb86bce3e5595f6a4", func := "loop.example/g00497/laws.FnExactAskMsg", spec := "fnExactAskMsg", apart := false }
def FnExactAskMsgSaid : Prop := fnExactAskMsgRow.holds Try.pinned (OpenSpec.ofChange fnExactAskMsgSpec)

/-- ITS FALSE NEIGHBOUR: 'it returns false'. Refute it at one input. -/
def fnExactAskMsgWrong : ChangeSpec := { name := "fnExactAskMsg", fn := fun _ => fun
  | [d1, d2] => { results := [.lit (.bool false)], args := [d1, d2] }
  | _ => none }
def FnExactAskMsgWrongFalsely : Prop := fnExactAskMsgRow.holds Try.pinned (OpenSpec.ofChange fnExactAskMsgWrong)

/-- 'laws.FnExactCountsOf': WHATEVER THE INPUT: true; the input reads as it did. -/
def fnExactCountsOfSpec : ChangeSpec := { name := "fnExactCountsOf", fn := fun _ => fun
  | [d] => { results := [.lit (.bool true)], args := [d] }
  | _ => none }
def fnExactCountsOfRow : OpenClaim := { program := "ytmniijljolchjaa", sum := "bb07c9ba5fff7888688ee1966129d0c133fe235c32d0c68bb86bce3e5595f6a4", func := "loop.example/g00497/laws.FnExactCountsOf", spec := "fnExactCountsOf", apart := false }
def FnExactCountsOfSaid : Prop := fnExactCountsOfRow.holds Try.pinned (OpenSpec.ofChange fnExactCountsOfSpec)

/-- ITS FALSE NEIGHBOUR: 'it returns false'. Refute it at one input. -/
def fnExactCountsOfWrong : ChangeSpec := { name := "fnExactCountsOf", fn := fun _ => fun
  | [d] => { results := [.lit (.bool false)], args := [d] }
  | _ => none }
def FnExactCountsOfWrongFalsely : Prop := fnExactCountsOfRow.holds Try.pinned (OpenSpec.ofChange fnExactCountsOfWrong)

/-- 'laws.FnExactSameMsg': WHATEVER THE INPUT: true; the input reads as it did. -/
def fnExactSameMsgSpec : ChangeSpec := { name := "fnExactSameMsg", fn := fun _ => fun
  | [d1, d2] => { results := [.lit (.bool true)], args := [d1, d2] }
  | _ => none }
def fnExactSameMsgRow : OpenClaim := { program := "ytmniijljolchjaa", sum := "bb07c9ba5fff7888688ee1966129d0c133fe235c32d0c68bb86bce3e5595f6a4", func := "loop.example/g00497/laws.FnExactSameMsg", spec := "fnExactSameMsg", apart := false }
def FnExactSameMsgSaid : Prop := fnExactSameMsgRow.holds Try.pinned (OpenSpec.ofChange fnExactSameMsgSpec)

/-- ITS FALSE NEIGHBOUR: 'it returns false'. Refute it at one input. -/
def fnExactSameMsgWrong : ChangeSpec := { name := "fnExactSameMsg", fn := fun _ => fun
  | [d1, d2] => { results := [.lit (.bool false)], args := [d1, d2] }
  | _ => none }
def FnExactSameMsgWrongFalsely : Prop := fnExactSameMsgRow.holds Try.pinned (OpenSpec.ofChange fnExactSameMsgWrong)

/-- 'laws.FnExactGetHead': WHATEVER THE INPUT: true; the input reads as it did. -/
def fnExactGetHeadSpec : ChangeSpec := { name := "fnExactGetHead", fn := fun _ => fun
  | [d] => { results := [.lit (.bool true)], args := [d] }
  | _ => none }
def fnExactGetHeadRow : OpenClaim := { program := "ytmniijljolchjaa", sum := "bb07c9ba5fff7888688ee1966129d0c133fe235c32d0c68bb86bce3e5595f6a4", func := "loop.example/g00497/laws.FnExactGetHead", spec := "fnExactGetHead", apart := false }
def FnExactGetHeadSaid : Prop := fnExactGetHeadRow.holds Try.pinned (OpenSpec.ofChange fnExactGetHeadSpec)

/-- ITS FALSE NEIGHBOUR: 'it returns false'. Refute it at one input. -/
def fnExactGetHeadWrong : ChangeSpec := { name := "fnExactGetHead", fn := fun _ => fun
  | [d] => { results := [.lit (.bool false)], args := [d] }
  | _ => none }
def FnExactGetHeadWrongFalsely : Prop := fnExactGetHeadRow.holds Try.pinned (OpenSpec.ofChange fnExactGetHeadWrong)

/- THE SECOND FORM. 'bulk': how many values and letters a reading holds, each counted each time it is reached (what is shared counts as often as it is met; a slice's spare places count too). A statement '..UptoSaid' is the law's where the arguments, and the package variables that the reading takes, are together of bulk at most 1048576: NARROWER than '..Said'. Prove '..Said' where nothing that the law and all that it calls make is longer than what came in: it says more and counts as full. Else prove '..UptoSaid'. A law counts once. -/
mutual
def uptoBulk {H : Type} : DataW H → Nat
  | .lit (.string bytes) => bytes.length + 1
  | .lit _ => 1
  | .nil => 1
  | .ptr d => uptoBulk d + 1
  | .slice elems spare => uptoBulkAll elems + uptoBulkAll spare + 1
  | .agg parts => uptoBulkAll parts + 1
  | .iface _ d => uptoBulk d + 1
  | .map entries => uptoBulkEntries entries + 1
  | .held _ => 1
def uptoBulkAll {H : Type} : List (DataW H) → Nat
  | [] => 0
  | d :: r => uptoBulk d + uptoBulkAll r
def uptoBulkEntries {H : Type} : List (Lit × DataW H) → Nat
  | [] => 0
  | x :: r => uptoBulkEntry x + uptoBulkEntries r
def uptoBulkEntry {H : Type} : Lit × DataW H → Nat
  | (.string bytes, d) => bytes.length + uptoBulk d + 1
  | (_, d) => uptoBulk d + 1
 end
def uptoSmall : (H : Type) → List (DataW H) → Bool := fun _ ds => decide (uptoBulkAll ds ≤ 1048576)
def OpenSpec.upto (s : _root_.Go.ChangeSpec) : _root_.Go.OpenSpec := { _root_.Go.OpenSpec.ofChange s with cond := some uptoSmall }

/-- 'laws.FnExactPut2', WHERE WHAT IT READS IS OF BULK AT MOST 1048576: true; the input reads as it did. -/
def fnExactPut2UptoRow : OpenClaim := { program := "ytmniijljolchjaa", sum := "bb07c9ba5fff7888688ee1966129d0c133fe235c32d0c68bb86bce3e5595f6a4", func := "loop.example/g00497/laws.FnExactPut2", spec := "fnExactPut2", apart := false, narrowed := true }
def FnExactPut2UptoSaid : Prop := fnExactPut2UptoRow.holds Try.pinned (OpenSpec.upto fnExactPut2Spec)

/-- 'laws.FnExactPut4', WHERE WHAT IT READS IS OF BULK AT MOST 1048576: true; the input reads as it did. -/
def fnExactPut4UptoRow : OpenClaim := { program := "ytmniijljolchjaa", sum := "bb07c9ba5fff7888688ee1966129d0c133fe235c32d0c68bb86bce3e5595f6a4", func := "loop.example/g00497/laws.FnExactPut4", spec := "fnExactPut4", apart := false, narrowed := true }
def FnExactPut4UptoSaid : Prop := fnExactPut4UptoRow.holds Try.pinned (OpenSpec.upto fnExactPut4Spec)

/-- 'laws.FnExactPutLabel', WHERE WHAT IT READS IS OF BULK AT MOST 1048576: true; the input reads as it did. -/
def fnExactPutLabelUptoRow : OpenClaim := { program := "ytmniijljolchjaa", sum := "bb07c9ba5fff7888688ee1966129d0c133fe235c32d0c68bb86bce3e5595f6a4", func := "loop.example/g00497/laws.FnExactPutLabel", spec := "fnExactPutLabel", apart := false, narrowed := true }
def FnExactPutLabelUptoSaid : Prop := fnExactPutLabelUptoRow.holds Try.pinned (OpenSpec.upto fnExactPutLabelSpec)

/-- 'laws.FnExactGetLabel', WHERE WHAT IT READS IS OF BULK AT MOST 1048576: true; the input reads as it did. -/
def fnExactGetLabelUptoRow : OpenClaim := { program := "ytmniijljolchjaa", sum := "bb07c9ba5fff7888688ee1966129d0c133fe235c32d0c68bb86bce3e5595f6a4", func := "loop.example/g00497/laws.FnExactGetLabel", spec := "fnExactGetLabel", apart := false, narrowed := true }
def FnExactGetLabelUptoSaid : Prop := fnExactGetLabelUptoRow.holds Try.pinned (OpenSpec.upto fnExactGetLabelSpec)

/-- 'laws.FnExactSameRecords', WHERE WHAT IT READS IS OF BULK AT MOST 1048576: true; the input reads as it did. -/
def fnExactSameRecordsUptoRow : OpenClaim := { program := "ytmniijljolchjaa", sum := "bb07c9ba5fff7888688ee1966129d0c133fe235c32d0c68bb86bce3e5595f6a4", func := "loop.example/g00497/laws.FnExactSameRecords", spec := "fnExactSameRecords", apart := false, narrowed := true }
def FnExactSameRecordsUptoSaid : Prop := fnExactSameRecordsUptoRow.holds Try.pinned (OpenSpec.upto fnExactSameRecordsSpec)

/-- 'laws.FnExactJoinLabels', WHERE WHAT IT READS IS OF BULK AT MOST 1048576: true; the input reads as it did. -/
def fnExactJoinLabelsUptoRow : OpenClaim := { program := "ytmniijljolchjaa", sum := "bb07c9ba5fff7888688ee1966129d0c133fe235c32d0c68bb86bce3e5595f6a4", func := "loop.example/g00497/laws.FnExactJoinLabels", spec := "fnExactJoinLabels", inPlace := ["internal/abi.NoEscape", "internal/bytealg.MakeNoZero"], apart := false, narrowed := true }
def FnExactJoinLabelsUptoSaid : Prop := fnExactJoinLabelsUptoRow.holds Try.pinned (OpenSpec.upto fnExactJoinLabelsSpec)

/-- 'laws.FnExactAskMsg', WHERE WHAT IT READS IS OF BULK AT MOST 1048576: true; the input reads as it did. -/
def fnExactAskMsgUptoRow : OpenClaim := { program := "ytmniijljolchjaa", sum := "bb07c9ba5fff7888688ee1966129d0c133fe235c32d0c68bb86bce3e5595f6a4", func := "loop.example/g00497/laws.FnExactAskMsg", spec := "fnExactAskMsg", apart := false, narrowed := true }
def FnExactAskMsgUptoSaid : Prop := fnExactAskMsgUptoRow.holds Try.pinned (OpenSpec.upto fnExactAskMsgSpec)

/-- 'laws.FnExactCountsOf', WHERE WHAT IT READS IS OF BULK AT MOST 1048576: true; the input reads as it did. -/
def fnExactCountsOfUptoRow : OpenClaim := { program := "ytmniijljolchjaa", sum := "bb07c9ba5fff7888688ee1966129d0c133fe235c32d0c68bb86bce3e5595f6a4", func := "loop.example/g00497/laws.FnExactCountsOf", spec := "fnExactCountsOf", apart := false, narrowed := true }
def FnExactCountsOfUptoSaid : Prop := fnExactCountsOfUptoRow.holds Try.pinned (OpenSpec.upto fnExactCountsOfSpec)

/-- 'laws.FnExactSameMsg', WHERE WHAT IT READS IS OF BULK AT MOST 1048576: true; the input reads as it did. -/
def fnExactSameMsgUptoRow : OpenClaim := { program := "ytmniijljolchjaa", sum := "bb07c9ba5fff7888688ee1966129d0c133fe235c32d0c68bb86bce3e5595f6a4", func := "loop.example/g00497/laws.FnExactSameMsg", spec := "fnExactSameMsg", apart := false, narrowed := true }
def FnExactSameMsgUptoSaid : Prop := fnExactSameMsgUptoRow.holds Try.pinned (OpenSpec.upto fnExactSameMsgSpec)

/-- 'laws.FnExactGetHead', WHERE WHAT IT READS IS OF BULK AT MOST 1048576: true; the input reads as it did. -/
def fnExactGetHeadUptoRow : OpenClaim := { program := "ytmniijljolchjaa", sum := "bb07c9ba5fff7888688ee1966129d0c133fe235c32d0c68bb86bce3e5595f6a4", func := "loop.example/g00497/laws.FnExactGetHead", spec := "fnExactGetHead", apart := false, narrowed := true }
def FnExactGetHeadUptoSaid : Prop := fnExactGetHeadUptoRow.holds Try.pinned (OpenSpec.upto fnExactGetHeadSpec)

end Rows
end Go.Proofs.Ytmniijljolchjaa
