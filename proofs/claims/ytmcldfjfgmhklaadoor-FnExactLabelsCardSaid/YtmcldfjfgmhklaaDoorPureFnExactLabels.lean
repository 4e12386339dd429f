/- For all strings the program's Labels returns what the reference's returns, in memory of its own. No condition. -/
import Derived.Test.YtmcldfjfgmhklaaDoorY
import Derived.Test.YtmcldfjfgmhklaaDoorLev
import Derived.Test.YtmcldfjfgmhklaaDoorLlabels
import Derived.Test.YtmcldfjfgmhklaaDoorLsmark
import Derived.Test.YtmcldfjfgmhklaaDoorLstrs
import Derived.Test.YtmcldfjfgmhklaaDoorPrx0
import Derived.Test.YtmcldfjfgmhklaaDoorPrx11
namespace Go.Proofs.YtmcldfjfgmhklaaDoor.Pure
open Go.RowKit Go.Proofs.YtmcldfjfgmhklaaDoor.Pr Go.Proofs.YtmcldfjfgmhklaaDoor.X Go.Proofs.YtmcldfjfgmhklaaDoor.Y Go.Proofs.YtmcldfjfgmhklaaDoor.Lem Go.Proofs.YtmcldfjfgmhklaaDoorW.PrintWords Go.Proofs.YtmcldfjfgmhklaaDoorW.PrintLast Go.Proofs.YtmcldfjfgmhklaaDoorW.PrintMore
set_option linter.unusedVariables false
set_option linter.unusedSimpArgs false
theorem FnExactLabels : laws_FnExactLabels.Pure := by
  intro s hs
  refine Ev.rounds ?_ (r := true)
  unfold laws_FnExactLabels.f
  by_cases hbig : (s.size : Int) > 1048576
  · exact Ev_if hbig (Ev.now _)
  · refine Ev_ifn hbig ?_
    have hl := labelsL_length s
    rw [impl_Labels_eq s (by omega)]
    simp only [Option.bind_some]
    refine Ev.bind (spec_Labels_eq s (by omega)) ?_
    generalize labelsL s = x at hl ⊢
    have ee := eqStringS_same x (by omega)
    have q : ¬ (1 + (x.length : Int)) < 0 := by omega
    have hh := heldStringS_eq x.length (by omega) 1 (by omega)
    refine Ev.bind ee (Ev_if rfl (Ev.bind (markStringS_eq x (by omega) 1 (by omega)) (Ev.bind hh (Ev_ifn q (Ev_if rfl ?_)))))
    exact Ev.bind ee (Ev_if rfl (Ev.bind hh (Ev_ifn q (Ev_if rfl (Ev.now _)))))

end Go.Proofs.YtmcldfjfgmhklaaDoor.Pure
