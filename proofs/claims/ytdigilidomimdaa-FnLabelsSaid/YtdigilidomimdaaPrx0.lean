-- Written for this claim by a program of this session (wip/tool/pr.py, over the kit's printer).
import Derived.Test.YtdigilidomimdaaProg
import Derived.Below
import Derived.Deep.Draws
import Derived.Deep.AppendLies
import Derived.Maps.AppendAt
import Derived.OwnWalk
import Derived.Laws.BytesArg
import Derived.Laws.MakeOwn
import Derived.Laws.OwnMore
import Derived.Deep.OwnRows
import Derived.Tactics
import Derived.Lib.ConvBytes
import Derived.Laws.Slices
import Derived.WalkKit
import Derived.KernelRfl
import Derived.RowKit3
import Derived.Deep.LoopGhost
import Derived.Deep.QuietTactic
import Derived.BigQuiet
import Derived.WideLaws
import Derived.Deep.DeepCutAuto
import Derived.Deep.CutBlock
import Derived.Deep.RegionHeld3
import Derived.Laws.Rows
import Derived.Lib.AppendStr
import Derived.ArgAppend
import Derived.Laws.IdiomCopy
import Derived.OrdersHeld
import Derived.Laws.BitsLemmas
import Derived.RowKit
import Derived.Test.YtdigilidomimdaaX
import Derived.Test.YtdigilidomimdaaO
import Derived.Lib.SliceRun
import Derived.Laws.Cover1
import Derived.Test.YtdigilidomimdaaWWords
import Derived.Test.YtdigilidomimdaaWLast
import Derived.Test.YtdigilidomimdaaWTab
import Derived.Test.YtdigilidomimdaaWFour
import Derived.Test.YtdigilidomimdaaWQPut
import Derived.Test.YtdigilidomimdaaWApart
import Derived.Test.YtdigilidomimdaaWArr
import Derived.Test.YtdigilidomimdaaWZeros
import Derived.Test.YtdigilidomimdaaWFoot
import Derived.Test.YtdigilidomimdaaWKept
import Derived.Test.YtdigilidomimdaaWShare
import Derived.Test.YtdigilidomimdaaWN
import Derived.Test.YtdigilidomimdaaWFootNe
import Derived.Test.YtdigilidomimdaaWAt
import Derived.Test.YtdigilidomimdaaWEqStruct
import Derived.Test.YtdigilidomimdaaWRepsOne
import Derived.Test.YtdigilidomimdaaWInv
import Derived.Test.YtdigilidomimdaaWInvWords
import Derived.Test.YtdigilidomimdaaWGuard
import Derived.Test.YtdigilidomimdaaWNEv
import Derived.Test.YtdigilidomimdaaWMore
namespace Go.Proofs.Ytdigilidomimdaa.Pr
open Go.RowKit Go.Proofs.YtdigilidomimdaaW.PrintWords Go.Proofs.YtdigilidomimdaaW.PrintLast Go.Proofs.YtdigilidomimdaaW.PrintMore
attribute [local go_sem] max2_int min2_int max_two min_two max_three min_three max_four min_four   -- for this text's walks alone
set_option linter.unusedVariables false
set_option linter.unusedSimpArgs false



def errW : Option Int → Value
  | none => .nilIface
  | some c => .iface 0 (.int .i64 c)
theorem errW_none : errW none = .nilIface := rfl
theorem errW_some (c : Int) : errW (some c) = .iface 0 (.int .i64 c) := rfl

theorem info3 : (Try.prog.info? 3).map (fun i => (i.zero, i.size, i.bytes)) = some (some (.int .i64 0), 1, 8) := by kernel_rfl
theorem info5 : (Try.prog.info? 5).map (fun i => (i.zero, i.size, i.bytes)) = some (some (.int .u8 0), 1, 1) := by kernel_rfl
theorem info9 : (Try.prog.info? 9).map (fun i => (i.zero, i.size, i.bytes)) = some (some (.string ⟨#[]⟩), 1, 16) := by kernel_rfl
-- the values' own types




end Go.Proofs.Ytdigilidomimdaa.Pr
