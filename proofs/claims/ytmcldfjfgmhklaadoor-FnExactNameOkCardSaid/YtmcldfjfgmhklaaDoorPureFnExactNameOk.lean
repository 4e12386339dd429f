/- For all strings the program's NameOk returns what the reference's returns. No condition. -/
import Derived.Test.YtmcldfjfgmhklaaDoorY
import Derived.Test.YtmcldfjfgmhklaaDoorLev
import Derived.Test.YtmcldfjfgmhklaaDoorLname
import Derived.Test.YtmcldfjfgmhklaaDoorPrx0
import Derived.Test.YtmcldfjfgmhklaaDoorPrx9
namespace Go.Proofs.YtmcldfjfgmhklaaDoor.Pure
open Go.RowKit Go.Proofs.YtmcldfjfgmhklaaDoor.Pr Go.Proofs.YtmcldfjfgmhklaaDoor.X Go.Proofs.YtmcldfjfgmhklaaDoor.Y Go.Proofs.YtmcldfjfgmhklaaDoor.Lem Go.Proofs.YtmcldfjfgmhklaaDoorW.PrintWords Go.Proofs.YtmcldfjfgmhklaaDoorW.PrintLast Go.Proofs.YtmcldfjfgmhklaaDoorW.PrintMore
set_option linter.unusedVariables false
set_option linter.unusedSimpArgs false
theorem FnExactNameOk : laws_FnExactNameOk.Pure := by
  intro s hs
  refine Ev.rounds ?_ (r := true)
  unfold laws_FnExactNameOk.f
  by_cases h1 : (s.size : Int) > 1048576
  · exact Ev_if h1 (Ev.now _)
  · refine Ev_ifn h1 (Ev.bind (spec_NameOk_eq s (by omega)) (Ev.bind (impl_NameOk_eq s (by omega)) ?_))
    exact Ev_ifn (by simp) (Ev.now _)

end Go.Proofs.YtmcldfjfgmhklaaDoor.Pure
