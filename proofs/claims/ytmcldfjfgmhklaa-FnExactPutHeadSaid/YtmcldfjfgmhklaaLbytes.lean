/- Lemmas on the printed functions, of this session. -/
import Derived.Test.YtmcldfjfgmhklaaY
import Derived.Test.YtmcldfjfgmhklaaPrx0
import Derived.Test.YtmcldfjfgmhklaaPrx9
namespace Go.Proofs.Ytmcldfjfgmhklaa.Lem
open Go.RowKit Go.Proofs.Ytmcldfjfgmhklaa.Pr Go.Proofs.Ytmcldfjfgmhklaa.X Go.Proofs.Ytmcldfjfgmhklaa.Y Go.Proofs.YtmcldfjfgmhklaaW.PrintWords Go.Proofs.YtmcldfjfgmhklaaW.PrintLast Go.Proofs.YtmcldfjfgmhklaaW.PrintMore
set_option linter.unusedVariables false
set_option linter.unusedSimpArgs false
theorem eqByteS_loop (a : List Int) (hn : a.length ≤ 140737488351232) : ∀ (d i : Nat), i + d = a.length → Ev (fun k => laws_eqByteS.l0 k a a (i : Int)) true := by
  intro d
  induction d with
  | zero =>
    intro i hi
    refine Ev.step (f := fun _ => some true) (fun k => ?_) ⟨0, fun _ _ => rfl⟩
    simp only [laws_eqByteS.l0]
    rw [if_neg (by omega)]
  | succ d ih =>
    intro i hi
    have hw := wrap_succ i a.length (by omega) (by omega)
    refine Ev.step (f := fun k => laws_eqByteS.l0 k a a ((i + 1 : Nat) : Int)) (fun k => ?_) (ih (i + 1) (by omega))
    simp only [laws_eqByteS.l0]
    rw [if_pos (by omega), if_pos (by omega), if_pos (by omega), hw]
    simp
theorem eqByteS_same (a : List Int) (hn : a.length ≤ 140737488351232) : Ev (fun k => laws_eqByteS.f k a a) true := by
  unfold laws_eqByteS.f
  simp only [if_true]
  exact eqByteS_loop a hn a.length 0 (by omega)

end Go.Proofs.Ytmcldfjfgmhklaa.Lem
