-- Written for this claim by a program of this session (wip/tool/pr.py, over the kit's printer).
import Derived.Test.YtmniijljolchjaaDoorProg
import Derived.Below
import Derived.Deep.Draws
import Derived.Deep.AppendLies
import Derived.Maps.AppendAt
import Derived.OwnWalk
import Derived.Laws.BytesArg
import Derived.Laws.MakeOwn
import Derived.Laws.OwnMore
import Derived.Deep.OwnRows
import Derived.Tactics
import Derived.Lib.ConvBytes
import Derived.Laws.Slices
import Derived.WalkKit
import Derived.KernelRfl
import Derived.RowKit3
import Derived.Deep.LoopGhost
import Derived.Deep.QuietTactic
import Derived.BigQuiet
import Derived.WideLaws
import Derived.Deep.DeepCutAuto
import Derived.Deep.CutBlock
import Derived.Deep.RegionHeld3
import Derived.Laws.Rows
import Derived.Lib.AppendStr
import Derived.ArgAppend
import Derived.Laws.IdiomCopy
import Derived.OrdersHeld
import Derived.Laws.BitsLemmas
import Derived.RowKit
import Derived.Test.YtmniijljolchjaaDoorX
import Derived.Test.YtmniijljolchjaaDoorSh
import Derived.Test.YtmniijljolchjaaDoorSp
import Derived.Test.YtmniijljolchjaaDoorO
import Derived.Lib.SliceRun
import Derived.Test.YtmniijljolchjaaDoorWWords
import Derived.Test.YtmniijljolchjaaDoorWLast
import Derived.Test.YtmniijljolchjaaDoorWTab
import Derived.Test.YtmniijljolchjaaDoorWFour
import Derived.Test.YtmniijljolchjaaDoorWQPut
import Derived.Test.YtmniijljolchjaaDoorWApart
import Derived.Test.YtmniijljolchjaaDoorWArr
import Derived.Test.YtmniijljolchjaaDoorWZeros
import Derived.Test.YtmniijljolchjaaDoorWFoot
import Derived.Test.YtmniijljolchjaaDoorWKept
import Derived.Test.YtmniijljolchjaaDoorWShare
import Derived.Test.YtmniijljolchjaaDoorWN
import Derived.Test.YtmniijljolchjaaDoorWFootNe
import Derived.Test.YtmniijljolchjaaDoorWAt
import Derived.Test.YtmniijljolchjaaDoorWEqStruct
import Derived.Test.YtmniijljolchjaaDoorWRepsOne
import Derived.Test.YtmniijljolchjaaDoorWInv
import Derived.Test.YtmniijljolchjaaDoorWInvWords
import Derived.Test.YtmniijljolchjaaDoorWGuard
import Derived.Test.YtmniijljolchjaaDoorWNEv
import Derived.Test.YtmniijljolchjaaDoorWMore
namespace Go.Proofs.YtmniijljolchjaaDoor.Pr
open Go.RowKit Go.Proofs.YtmniijljolchjaaDoorW.PrintWords Go.Proofs.YtmniijljolchjaaDoorW.PrintLast Go.Proofs.YtmniijljolchjaaDoorW.PrintMore
attribute [local go_sem] max2_int min2_int max_two min_two max_three min_three max_four min_four   -- for this text's walks alone
set_option linter.unusedVariables false
set_option linter.unusedSimpArgs false



def errW : Option Int → Value
  | none => .nilIface
  | some c => .iface 0 (.int .i64 c)
theorem errW_none : errW none = .nilIface := rfl
theorem errW_some (c : Int) : errW (some c) = .iface 0 (.int .i64 c) := rfl

theorem info9 : (Tryd.prog.info? 9).map (fun i => (i.zero, i.size, i.bytes)) = some (some (.string ⟨#[]⟩), 1, 16) := by kernel_rfl
-- the values' own types

end Go.Proofs.YtmniijljolchjaaDoor.Pr
