/- For all two strings the program's LessName returns what the reference's returns. No condition. -/
import Derived.Test.YtmcldfjfgmhklaaDoorY
import Derived.Test.YtmcldfjfgmhklaaDoorLev
import Derived.Test.YtmcldfjfgmhklaaDoorLless
import Derived.Test.YtmcldfjfgmhklaaDoorPrx0
import Derived.Test.YtmcldfjfgmhklaaDoorPrx10
namespace Go.Proofs.YtmcldfjfgmhklaaDoor.Pure
open Go.RowKit Go.Proofs.YtmcldfjfgmhklaaDoor.Pr Go.Proofs.YtmcldfjfgmhklaaDoor.X Go.Proofs.YtmcldfjfgmhklaaDoor.Y Go.Proofs.YtmcldfjfgmhklaaDoor.Lem Go.Proofs.YtmcldfjfgmhklaaDoorW.PrintWords Go.Proofs.YtmcldfjfgmhklaaDoorW.PrintLast Go.Proofs.YtmcldfjfgmhklaaDoorW.PrintMore
set_option linter.unusedVariables false
set_option linter.unusedSimpArgs false
theorem FnExactLessName : laws_FnExactLessName.Pure := by
  intro a b ha hb
  refine Ev.rounds ?_ (r := true)
  unfold laws_FnExactLessName.f
  by_cases h1 : (a.size : Int) > 1048576
  · exact Ev_if h1 (Ev.now _)
  · refine Ev_ifn h1 ?_
    by_cases h2 : (b.size : Int) > 1048576
    · exact Ev_if h2 (Ev.now _)
    · refine Ev_ifn h2 (Ev.bind (spec_LessName_eq a b (by omega) (by omega)) (Ev.bind (impl_LessName_eq a b (by omega) (by omega)) ?_))
      exact Ev_ifn (by simp) (Ev.now _)

end Go.Proofs.YtmcldfjfgmhklaaDoor.Pure
