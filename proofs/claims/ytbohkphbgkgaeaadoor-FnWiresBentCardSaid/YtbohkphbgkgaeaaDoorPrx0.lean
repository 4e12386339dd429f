-- Written for this claim by a program of this session (wip/tool/pr.py, over the kit's printer).
import Derived.Test.YtbohkphbgkgaeaaDoorProg
import Derived.Below
import Derived.Deep.Draws
import Derived.Deep.AppendLies
import Derived.Maps.AppendAt
import Derived.OwnWalk
import Derived.Laws.BytesArg
import Derived.Laws.MakeOwn
import Derived.Laws.OwnMore
import Derived.Deep.OwnRows
import Derived.Tactics
import Derived.Lib.ConvBytes
import Derived.Laws.Slices
import Derived.WalkKit
import Derived.KernelRfl
import Derived.RowKit3
import Derived.Deep.LoopGhost
import Derived.Deep.QuietTactic
import Derived.BigQuiet
import Derived.WideLaws
import Derived.Deep.DeepCutAuto
import Derived.Deep.CutBlock
import Derived.Deep.RegionHeld3
import Derived.Laws.Rows
import Derived.Lib.AppendStr
import Derived.ArgAppend
import Derived.Laws.IdiomCopy
import Derived.OrdersHeld
import Derived.Laws.BitsLemmas
import Derived.RowKit
import Derived.Test.YtbohkphbgkgaeaaDoorX
import Derived.Test.YtbohkphbgkgaeaaDoorSh
import Derived.Test.YtbohkphbgkgaeaaDoorSp
import Derived.Test.YtbohkphbgkgaeaaDoorO
import Derived.Lib.SliceRun
import Derived.Laws.Cover1
import Derived.Test.YtbohkphbgkgaeaaDoorWWords
import Derived.Test.YtbohkphbgkgaeaaDoorWLast
import Derived.Test.YtbohkphbgkgaeaaDoorWTab
import Derived.Test.YtbohkphbgkgaeaaDoorWFour
import Derived.Test.YtbohkphbgkgaeaaDoorWQPut
import Derived.Test.YtbohkphbgkgaeaaDoorWApart
import Derived.Test.YtbohkphbgkgaeaaDoorWArr
import Derived.Test.YtbohkphbgkgaeaaDoorWZeros
import Derived.Test.YtbohkphbgkgaeaaDoorWFoot
import Derived.Test.YtbohkphbgkgaeaaDoorWKept
import Derived.Test.YtbohkphbgkgaeaaDoorWShare
import Derived.Test.YtbohkphbgkgaeaaDoorWN
import Derived.Test.YtbohkphbgkgaeaaDoorWFootNe
import Derived.Test.YtbohkphbgkgaeaaDoorWAt
import Derived.Test.YtbohkphbgkgaeaaDoorWEqStruct
import Derived.Test.YtbohkphbgkgaeaaDoorWRepsOne
import Derived.Test.YtbohkphbgkgaeaaDoorWInv
import Derived.Test.YtbohkphbgkgaeaaDoorWInvWords
import Derived.Test.YtbohkphbgkgaeaaDoorWGuard
import Derived.Test.YtbohkphbgkgaeaaDoorWNEv
import Derived.Test.YtbohkphbgkgaeaaDoorWMore
namespace Go.Proofs.YtbohkphbgkgaeaaDoor.Pr
open Go.RowKit Go.Proofs.YtbohkphbgkgaeaaDoorW.PrintWords Go.Proofs.YtbohkphbgkgaeaaDoorW.PrintLast Go.Proofs.YtbohkphbgkgaeaaDoorW.PrintMore
attribute [local go_sem] max2_int min2_int max_two min_two max_three min_three max_four min_four   -- for this text's walks alone
set_option linter.unusedVariables false
set_option linter.unusedSimpArgs false



def errW : Option Int → Value
  | none => .nilIface
  | some c => .iface 0 (.int .i64 c)
theorem errW_none : errW none = .nilIface := rfl
theorem errW_some (c : Int) : errW (some c) = .iface 0 (.int .i64 c) := rfl

theorem info3 : (Tryd.prog.info? 3).map (fun i => (i.zero, i.size, i.bytes)) = some (some (.int .i64 0), 1, 8) := by kernel_rfl
theorem info5 : (Tryd.prog.info? 5).map (fun i => (i.zero, i.size, i.bytes)) = some (some (.int .u8 0), 1, 1) := by kernel_rfl
theorem info9 : (Tryd.prog.info? 9).map (fun i => (i.zero, i.size, i.bytes)) = some (some (.string ⟨#[]⟩), 1, 16) := by kernel_rfl
-- the values' own types

class St (w W : World) : Prop where
  go : ∀ P : World → Prop, (∀ w o, P w → P (w.alloc o)) → (∀ w n, P w → P (w.drewN n)) → (∀ w, P w → P w.drew) → P w → P W
instance (priority := low) St.same (w : World) : St w w := ⟨fun _ _ _ _ h => h⟩
instance St.drewN (w W : World) (n : Nat) [b : St w W] : St w (W.drewN n) := ⟨fun P h1 h2 h3 h => h2 _ n (b.go P h1 h2 h3 h)⟩
instance St.drew (w W : World) [b : St w W] : St w W.drew := ⟨fun P h1 h2 h3 h => h3 _ (b.go P h1 h2 h3 h)⟩
instance St.alloc (w W : World) (o : Obj) [b : St w W] : St w (W.alloc o) := ⟨fun P h1 h2 h3 h => h1 _ o (b.go P h1 h2 h3 h)⟩
theorem bU {w W : World} {g : Nat} {o : Obj} (h : w.heap[g]? = some o) [b : St w W] : W.heap[g]? = some o := b.go (fun W => W.heap[g]? = some o) (fun _ o' h => blk_alloc h o') (fun _ n h => blk_drewN h n) (fun _ h => blk_drew h) h
theorem wU {v w W : World} (h : Below v.heap.size v w) [b : St w W] : Below v.heap.size v W := b.go (fun W => Below v.heap.size v W) (fun _ o' h => below_alloc h o') (fun _ n h => pw_below_drewN h n) (fun _ h => below_drew1 h) h
theorem rU {α : Type} {d : Kd α} {e base : Nat} {ok : Nat → Prop} {v : Value} {xs : List α} {w W : World} (h : d.R e w base ok v xs) [b : St w W] : d.R e W base ok v xs := b.go (fun W => d.R e W base ok v xs) (by intro w o h; apply Kd.R_alloc; exact h) (by intro w n h; apply Kd.R_drewN; exact h) (by intro w h; apply Kd.R_drew; exact h) h
theorem cU {α : Type} {d : Kd α} {A : Option Addr} {n : Nat} {xs : List α} {w W : World} (h : d.C w A n xs) [b : St w W] : d.C W A n xs := b.go (fun W => d.C W A n xs) (by intro w o h; exact Kd.C_alloc h _) (by intro w n h; exact Kd.C_drewN h _) (by intro w h; exact Kd.C_drew h) h

end Go.Proofs.YtbohkphbgkgaeaaDoor.Pr
