/- Lemmas on the printed functions, of this session. -/
import Derived.Test.YtmcldfjfgmhklaaDoorY
import Derived.Test.YtmcldfjfgmhklaaDoorLmark
import Derived.Test.YtmcldfjfgmhklaaDoorPrx0
import Derived.Test.YtmcldfjfgmhklaaDoorPrx8
namespace Go.Proofs.YtmcldfjfgmhklaaDoor.Lem
open Go.RowKit Go.Proofs.YtmcldfjfgmhklaaDoor.Pr Go.Proofs.YtmcldfjfgmhklaaDoor.X Go.Proofs.YtmcldfjfgmhklaaDoor.Y Go.Proofs.YtmcldfjfgmhklaaDoorW.PrintWords Go.Proofs.YtmcldfjfgmhklaaDoorW.PrintLast Go.Proofs.YtmcldfjfgmhklaaDoorW.PrintMore
set_option linter.unusedVariables false
set_option linter.unusedSimpArgs false
theorem heldByteS_loop (n : Nat) (hn : n ≤ 140737488355328) (a : Int) (ha : 0 ≤ a ∧ a ≤ 4000000000000000000) : ∀ (d i : Nat), i + d = n →
    Ev (fun k => laws_heldByteS.l0 k (marks n a) (a + i) (i : Int)) (a + n) := by
  intro d
  have hl := marks_length n a
  induction d with
  | zero =>
    intro i hi
    refine Ev.step (f := fun _ => some (a + i)) (fun k => ?_) ⟨0, fun _ _ => by rw [show i = n by omega]⟩
    simp only [laws_heldByteS.l0]
    rw [if_neg (by omega)]
  | succ d ih =>
    intro i hi
    have hw := wrap_succ i n (by omega) hn
    refine Ev.step (f := fun k => laws_heldByteS.l0 k (marks n a) (a + ((i + 1 : Nat) : Int)) ((i + 1 : Nat) : Int)) (fun k => ?_) (ih (i + 1) (by omega))
    simp only [laws_heldByteS.l0]
    rw [if_pos (by omega), if_pos (by omega), marks_rd n a i (by omega), if_pos rfl, hw, wrap_id (x := a + (i : Int) + 1) (by omega) (by omega)]
    congr 1
    omega
theorem heldByteS_eq (n : Nat) (hn : n ≤ 140737488355328) : Ev (fun k => laws_heldByteS.f k (marks n 1) 1) (1 + (n : Int)) := by
  have := heldByteS_loop n hn 1 (by omega) n 0 (by omega)
  unfold laws_heldByteS.f
  simpa using this

end Go.Proofs.YtmcldfjfgmhklaaDoor.Lem
