-- Written for this claim by a program of this session (wip/tool/pr.py, over the kit's printer).
import Derived.Test.YtbnkjjmdmohjmaaProg
import Derived.Below
import Derived.Deep.Draws
import Derived.Deep.AppendLies
import Derived.Maps.AppendAt
import Derived.OwnWalk
import Derived.Laws.BytesArg
import Derived.Laws.MakeOwn
import Derived.Laws.OwnMore
import Derived.Deep.OwnRows
import Derived.Tactics
import Derived.Lib.ConvBytes
import Derived.Laws.Slices
import Derived.WalkKit
import Derived.KernelRfl
import Derived.RowKit3
import Derived.Deep.LoopGhost
import Derived.Deep.QuietTactic
import Derived.BigQuiet
import Derived.WideLaws
import Derived.Deep.DeepCutAuto
import Derived.Deep.CutBlock
import Derived.Deep.RegionHeld3
import Derived.Laws.Rows
import Derived.Lib.AppendStr
import Derived.ArgAppend
import Derived.Laws.IdiomCopy
import Derived.OrdersHeld
import Derived.Laws.BitsLemmas
import Derived.RowKit
import Derived.Test.YtbnkjjmdmohjmaaX
import Derived.Test.YtbnkjjmdmohjmaaO
import Derived.Lib.SliceRun
import Derived.Test.YtbnkjjmdmohjmaaWWords
import Derived.Test.YtbnkjjmdmohjmaaWLast
import Derived.Test.YtbnkjjmdmohjmaaWTab
import Derived.Test.YtbnkjjmdmohjmaaWFour
import Derived.Test.YtbnkjjmdmohjmaaWQPut
import Derived.Test.YtbnkjjmdmohjmaaWApart
import Derived.Test.YtbnkjjmdmohjmaaWArr
import Derived.Test.YtbnkjjmdmohjmaaWZeros
import Derived.Test.YtbnkjjmdmohjmaaWFoot
import Derived.Test.YtbnkjjmdmohjmaaWKept
import Derived.Test.YtbnkjjmdmohjmaaWShare
import Derived.Test.YtbnkjjmdmohjmaaWN
import Derived.Test.YtbnkjjmdmohjmaaWFootNe
import Derived.Test.YtbnkjjmdmohjmaaWAt
import Derived.Test.YtbnkjjmdmohjmaaWEqStruct
import Derived.Test.YtbnkjjmdmohjmaaWRepsOne
import Derived.Test.YtbnkjjmdmohjmaaWInv
import Derived.Test.YtbnkjjmdmohjmaaWInvWords
import Derived.Test.YtbnkjjmdmohjmaaWGuard
import Derived.Test.YtbnkjjmdmohjmaaWNEv
import Derived.Test.YtbnkjjmdmohjmaaWMore
namespace Go.Proofs.Ytbnkjjmdmohjmaa.Pr
open Go.RowKit Go.Proofs.YtbnkjjmdmohjmaaW.PrintWords Go.Proofs.YtbnkjjmdmohjmaaW.PrintLast Go.Proofs.YtbnkjjmdmohjmaaW.PrintMore
attribute [local go_sem] max2_int min2_int max_two min_two max_three min_three max_four min_four   -- for this text's walks alone
set_option linter.unusedVariables false
set_option linter.unusedSimpArgs false



def errW : Option Int → Value
  | none => .nilIface
  | some c => .iface 0 (.int .i64 c)
theorem errW_none : errW none = .nilIface := rfl
theorem errW_some (c : Int) : errW (some c) = .iface 0 (.int .i64 c) := rfl

theorem info5 : (Try.prog.info? 5).map (fun i => (i.zero, i.size, i.bytes)) = some (some (.int .u8 0), 1, 1) := by kernel_rfl
-- the values' own types

end Go.Proofs.Ytbnkjjmdmohjmaa.Pr
