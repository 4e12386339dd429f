/- For all strings the program's Above returns what the reference's returns, in memory of its own. No condition. -/
import Derived.Test.YtmcldfjfgmhklaaDoorY
import Derived.Test.YtmcldfjfgmhklaaDoorLabove
import Derived.Test.YtmcldfjfgmhklaaDoorLev
import Derived.Test.YtmcldfjfgmhklaaDoorLlabels
import Derived.Test.YtmcldfjfgmhklaaDoorLsmark
import Derived.Test.YtmcldfjfgmhklaaDoorLstrs
import Derived.Test.YtmcldfjfgmhklaaDoorPrx0
import Derived.Test.YtmcldfjfgmhklaaDoorPrx17
namespace Go.Proofs.YtmcldfjfgmhklaaDoor.Pure
open Go.RowKit Go.Proofs.YtmcldfjfgmhklaaDoor.Pr Go.Proofs.YtmcldfjfgmhklaaDoor.X Go.Proofs.YtmcldfjfgmhklaaDoor.Y Go.Proofs.YtmcldfjfgmhklaaDoor.Lem Go.Proofs.YtmcldfjfgmhklaaDoorW.PrintWords Go.Proofs.YtmcldfjfgmhklaaDoorW.PrintLast Go.Proofs.YtmcldfjfgmhklaaDoorW.PrintMore
set_option linter.unusedVariables false
set_option linter.unusedSimpArgs false
theorem FnExactAbove : laws_FnExactAbove.Pure := by
  intro s hs
  refine Ev.rounds ?_ (r := true)
  unfold laws_FnExactAbove.f
  by_cases hbig : (s.size : Int) > 1048576
  · exact Ev_if hbig (Ev.now _)
  · refine Ev_ifn hbig ?_
    have hl := labelsL_length s
    have hl2 := above_length s
    have hi := impl_Above_eq s (by omega)
    refine Ev.bind (spec_Above_eq s (by omega)) (Ev.bind hi ?_)
    have ee := eqStringS_same (above s) (by omega)
    have q : ¬ (1 + ((above s).length : Int)) < 0 := by omega
    have hh := heldStringS_eq (above s).length (by omega) 1 (by omega)
    refine Ev.bind ee (Ev_if rfl (Ev.bind (markStringS_eq (above s) (by omega) 1 (by omega)) (Ev.bind hh (Ev_ifn q (Ev_if rfl ?_)))))
    exact Ev.bind hi (Ev.bind ee (Ev_if rfl (Ev.bind hh (Ev_ifn q (Ev_if rfl (Ev.now _))))))

end Go.Proofs.YtmcldfjfgmhklaaDoor.Pure
