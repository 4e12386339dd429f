-- Written for this claim by a program of this session (wip/tool/pr.py, over the kit's printer).
import Derived.Test.YtbohkphbgkgaeaaDoorProg
import Derived.Below
import Derived.Deep.Draws
import Derived.Deep.AppendLies
import Derived.Maps.AppendAt
import Derived.OwnWalk
import Derived.Laws.BytesArg
import Derived.Laws.MakeOwn
import Derived.Laws.OwnMore
import Derived.Deep.OwnRows
import Derived.Tactics
import Derived.Lib.ConvBytes
import Derived.Laws.Slices
import Derived.WalkKit
import Derived.KernelRfl
import Derived.RowKit3
import Derived.Deep.LoopGhost
import Derived.Deep.QuietTactic
import Derived.BigQuiet
import Derived.WideLaws
import Derived.Deep.DeepCutAuto
import Derived.Deep.CutBlock
import Derived.Deep.RegionHeld3
import Derived.Laws.Rows
import Derived.Lib.AppendStr
import Derived.ArgAppend
import Derived.Laws.IdiomCopy
import Derived.OrdersHeld
import Derived.Laws.BitsLemmas
import Derived.RowKit
import Derived.Test.YtbohkphbgkgaeaaDoorX
import Derived.Test.YtbohkphbgkgaeaaDoorSh
import Derived.Test.YtbohkphbgkgaeaaDoorSp
import Derived.Test.YtbohkphbgkgaeaaDoorO
import Derived.Lib.SliceRun
import Derived.Laws.Cover1
import Derived.Test.YtbohkphbgkgaeaaDoorWWords
import Derived.Test.YtbohkphbgkgaeaaDoorWLast
import Derived.Test.YtbohkphbgkgaeaaDoorWTab
import Derived.Test.YtbohkphbgkgaeaaDoorWFour
import Derived.Test.YtbohkphbgkgaeaaDoorWQPut
import Derived.Test.YtbohkphbgkgaeaaDoorWApart
import Derived.Test.YtbohkphbgkgaeaaDoorWArr
import Derived.Test.YtbohkphbgkgaeaaDoorWZeros
import Derived.Test.YtbohkphbgkgaeaaDoorWFoot
import Derived.Test.YtbohkphbgkgaeaaDoorWKept
import Derived.Test.YtbohkphbgkgaeaaDoorWShare
import Derived.Test.YtbohkphbgkgaeaaDoorWN
import Derived.Test.YtbohkphbgkgaeaaDoorWFootNe
import Derived.Test.YtbohkphbgkgaeaaDoorWAt
import Derived.Test.YtbohkphbgkgaeaaDoorWEqStruct
import Derived.Test.YtbohkphbgkgaeaaDoorWRepsOne
import Derived.Test.YtbohkphbgkgaeaaDoorWInv
import Derived.Test.YtbohkphbgkgaeaaDoorWInvWords
import Derived.Test.YtbohkphbgkgaeaaDoorWGuard
import Derived.Test.YtbohkphbgkgaeaaDoorWNEv
import Derived.Test.YtbohkphbgkgaeaaDoorWMore
namespace Go.Proofs.YtbohkphbgkgaeaaDoor.Pr
open Go.RowKit Go.Proofs.YtbohkphbgkgaeaaDoorW.PrintWords Go.Proofs.YtbohkphbgkgaeaaDoorW.PrintLast Go.Proofs.YtbohkphbgkgaeaaDoorW.PrintMore
attribute [local go_sem] max2_int min2_int max_two min_two max_three min_three max_four min_four   -- for this text's walks alone
set_option linter.unusedVariables false
set_option linter.unusedSimpArgs false



def errW : Option Int → Value
  | none => .nilIface
  | some c => .iface 0 (.int .i64 c)
theorem errW_none : errW none = .nilIface := rfl
theorem errW_some (c : Int) : errW (some c) = .iface 0 (.int .i64 c) := rfl

theorem info9 : (Tryd.prog.info? 9).map (fun i => (i.zero, i.size, i.bytes)) = some (some (.string ⟨#[]⟩), 1, 16) := by kernel_rfl
-- the values' own types



end Go.Proofs.YtbohkphbgkgaeaaDoor.Pr
