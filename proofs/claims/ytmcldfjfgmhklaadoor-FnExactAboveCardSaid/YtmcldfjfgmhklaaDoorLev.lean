/- Lemmas on the printed functions, of this session. -/
import Derived.Test.YtmcldfjfgmhklaaDoorY
import Derived.Test.YtmcldfjfgmhklaaDoorPrx0
namespace Go.Proofs.YtmcldfjfgmhklaaDoor.Lem
open Go.RowKit Go.Proofs.YtmcldfjfgmhklaaDoor.Pr Go.Proofs.YtmcldfjfgmhklaaDoor.X Go.Proofs.YtmcldfjfgmhklaaDoor.Y Go.Proofs.YtmcldfjfgmhklaaDoorW.PrintWords Go.Proofs.YtmcldfjfgmhklaaDoorW.PrintLast Go.Proofs.YtmcldfjfgmhklaaDoorW.PrintMore
set_option linter.unusedVariables false
set_option linter.unusedSimpArgs false
theorem Ev_if {α : Type} {c : Prop} [Decidable c] {f g : Nat → Option α} {x : α} (h : c) (h1 : Ev f x) : Ev (fun k => if c then f k else g k) x := by
  simp only [if_pos h]
  exact h1
theorem Ev_ifn {α : Type} {c : Prop} [Decidable c] {f g : Nat → Option α} {x : α} (h : ¬ c) (h1 : Ev g x) : Ev (fun k => if c then f k else g k) x := by
  simp only [if_neg h]
  exact h1

end Go.Proofs.YtmcldfjfgmhklaaDoor.Lem
