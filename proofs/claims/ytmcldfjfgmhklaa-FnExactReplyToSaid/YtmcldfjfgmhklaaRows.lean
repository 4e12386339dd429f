/-
  No cell of these rows narrows 'for every input' (looked for: loops, veiled, ifaces, maps, wideKeys, modest, calm, conditions, laid).
  DERIVED. THE GIVEN ROWS OF THIS SEAT. 2 by the template 'for every input the law returns true; each argument reads behind the call as it read before'; 0 by the template 'total and deterministic' (their statements: YtmcldfjfgmhklaaTotals.lean).
  GIVEN WITH THE SEED: the statements are not yours to turn. If you find one false, say at which input.
  Laid BY PROGRAM, IN A SANDBOX (cutbox-rows.mjs): the forced cells as the released guide's own fill.sh prints them over the translation 1d21c16a7a2db9b1… (all of the seat's roots in one cut). By AI agents, Wed Nov 11 2026. No macro, syntax, notation, axiom, sorry.
-/
import Derived.Test.YtmcldfjfgmhklaaChecked
import GoSem.Claim
import GoSem.ClaimJoined
import GoSem.ClaimMapViews
import Derived.JoinedTies
import Derived.KernelRfl
namespace Go.Proofs.Ytmcldfjfgmhklaa
/- THE CELL 'sum', in the pinned program and in every row, IS THE sha256 OF THE DUMP (.gsa) THAT YtmcldfjfgmhklaaProg.lean LOADS. Nothing in Lean hashes anything: it is a label: what it is worth is what the hold of that sum in a sandbox is worth. -/
noncomputable def Try.pinned : Pinned := { name := "ytmcldfjfgmhklaa", sum := "1d21c16a7a2db9b1765adc1d37732f7f2240897079722091fb5a02129b0e4630", checked := Try.checked }
namespace Rows
def none {H : Type} : Left H := { results := [], args := [] }

/-- 'laws.FnExactReplyTo': WHATEVER THE INPUT: true; the input reads as it did. -/
def fnExactReplyToSpec : ChangeSpec := { name := "fnExactReplyTo", fn := fun _ => fun
  | [d1, d2, d3, d4, d5, d6] => { results := [.lit (.bool true)], args := [d1, d2, d3, d4, d5, d6] }
  | _ => none }
def fnExactReplyToRow : OpenClaim := { program := "ytmcldfjfgmhklaa", sum := "1d21c16a7a2db9b1765adc1d37732f7f2240897079722091fb5a02129b0e4630", func := "loop.example/g00497/laws.FnExactReplyTo", spec := "fnExactReplyTo", apart := false }
def FnExactReplyToSaid : Prop := fnExactReplyToRow.holds Try.pinned (OpenSpec.ofChange fnExactReplyToSpec)

/-- ITS FALSE NEIGHBOUR: 'it returns false'. Refute it at one input. -/
def fnExactReplyToWrong : ChangeSpec := { name := "fnExactReplyTo", fn := fun _ => fun
  | [d1, d2, d3, d4, d5, d6] => { results := [.lit (.bool false)], args := [d1, d2, d3, d4, d5, d6] }
  | _ => none }
def FnExactReplyToWrongFalsely : Prop := fnExactReplyToRow.holds Try.pinned (OpenSpec.ofChange fnExactReplyToWrong)

/-- 'laws.FnExactPutHead': WHATEVER THE INPUT: true; the input reads as it did. -/
def fnExactPutHeadSpec : ChangeSpec := { name := "fnExactPutHead", fn := fun _ => fun
  | [d] => { results := [.lit (.bool true)], args := [d] }
  | _ => none }
def fnExactPutHeadRow : OpenClaim := { program := "ytmcldfjfgmhklaa", sum := "1d21c16a7a2db9b1765adc1d37732f7f2240897079722091fb5a02129b0e4630", func := "loop.example/g00497/laws.FnExactPutHead", spec := "fnExactPutHead", apart := false }
def FnExactPutHeadSaid : Prop := fnExactPutHeadRow.holds Try.pinned (OpenSpec.ofChange fnExactPutHeadSpec)

/-- ITS FALSE NEIGHBOUR: 'it returns false'. Refute it at one input. -/
def fnExactPutHeadWrong : ChangeSpec := { name := "fnExactPutHead", fn := fun _ => fun
  | [d] => { results := [.lit (.bool false)], args := [d] }
  | _ => none }
def FnExactPutHeadWrongFalsely : Prop := fnExactPutHeadRow.holds Try.pinned (OpenSpec.ofChange fnExactPutHeadWrong)

/- THE SECOND FORM. 'bulk': how many values and letters a reading holds, each counted each time it is reached (what is shared counts as often as it is met; a slice's spare places count too). A statement '..UptoSaid' is the law's where the arguments, and the package variables that the reading takes, are together of bulk at most 1048576: NARROWER than '..Said'. Prove '..Said' where nothing that the law and all that it calls make is longer than what came in: it says more and counts as full. Else prove '..UptoSaid'. A law counts once. -/
mutual
def uptoBulk {H : Type} : DataW H → Nat
  | .lit (.string bytes) => bytes.length + 1
  | .lit _ => 1
  | .nil => 1
  | .ptr d => uptoBulk d + 1
  | .slice elems spare => uptoBulkAll elems + uptoBulkAll spare + 1
  | .agg parts => uptoBulkAll parts + 1
  | .iface _ d => uptoBulk d + 1
  | .map entries => uptoBulkEntries entries + 1
  | .held _ => 1
def uptoBulkAll {H : Type} : List (DataW H) → Nat
  | [] => 0
  | d :: r => uptoBulk d + uptoBulkAll r
def uptoBulkEntries {H : Type} : List (Lit × DataW H) → Nat
  | [] => 0
  | x :: r => uptoBulkEntry x + uptoBulkEntries r
def uptoBulkEntry {H : Type} : Lit × DataW H → Nat
  | (.string bytes, d) => bytes.length + uptoBulk d + 1
  | (_, d) => uptoBulk d + 1
 end
def uptoSmall : (H : Type) → List (DataW H) → Bool := fun _ ds => decide (uptoBulkAll ds ≤ 1048576)
def OpenSpec.upto (s : _root_.Go.ChangeSpec) : _root_.Go.OpenSpec := { _root_.Go.OpenSpec.ofChange s with cond := some uptoSmall }

/-- 'laws.FnExactReplyTo', WHERE WHAT IT READS IS OF BULK AT MOST 1048576: true; the input reads as it did. -/
def fnExactReplyToUptoRow : OpenClaim := { program := "ytmcldfjfgmhklaa", sum := "1d21c16a7a2db9b1765adc1d37732f7f2240897079722091fb5a02129b0e4630", func := "loop.example/g00497/laws.FnExactReplyTo", spec := "fnExactReplyTo", apart := false, narrowed := true }
def FnExactReplyToUptoSaid : Prop := fnExactReplyToUptoRow.holds Try.pinned (OpenSpec.upto fnExactReplyToSpec)

/-- 'laws.FnExactPutHead', WHERE WHAT IT READS IS OF BULK AT MOST 1048576: true; the input reads as it did. -/
def fnExactPutHeadUptoRow : OpenClaim := { program := "ytmcldfjfgmhklaa", sum := "1d21c16a7a2db9b1765adc1d37732f7f2240897079722091fb5a02129b0e4630", func := "loop.example/g00497/laws.FnExactPutHead", spec := "fnExactPutHead", apart := false, narrowed := true }
def FnExactPutHeadUptoSaid : Prop := fnExactPutHeadUptoRow.holds Try.pinned (OpenSpec.upto fnExactPutHeadSpec)

end Rows
end Go.Proofs.Ytmcldfjfgmhklaa
