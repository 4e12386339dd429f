/- For all two strings the program's Under returns what the reference's returns. No condition. -/
import Derived.Test.YtmniijljolchjaaDoorY
import Derived.Test.YtmniijljolchjaaDoorLev
import Derived.Test.YtmniijljolchjaaDoorLunder
import Derived.Test.YtmniijljolchjaaDoorPrx0
import Derived.Test.YtmniijljolchjaaDoorPrx3
namespace Go.Proofs.YtmniijljolchjaaDoor.Pure
open Go.RowKit Go.Proofs.YtmniijljolchjaaDoor.Pr Go.Proofs.YtmniijljolchjaaDoor.X Go.Proofs.YtmniijljolchjaaDoor.Y Go.Proofs.YtmniijljolchjaaDoor.Lem Go.Proofs.YtmniijljolchjaaDoorW.PrintWords Go.Proofs.YtmniijljolchjaaDoorW.PrintLast Go.Proofs.YtmniijljolchjaaDoorW.PrintMore
set_option linter.unusedVariables false
set_option linter.unusedSimpArgs false
theorem FnExactUnder : laws_FnExactUnder.Pure := by
  intro a b ha hb
  refine Ev.rounds ?_ (r := true)
  unfold laws_FnExactUnder.f
  by_cases h1 : (a.size : Int) > 1048576
  · exact Ev_if h1 (Ev.now _)
  · refine Ev_ifn h1 ?_
    by_cases h2 : (b.size : Int) > 1048576
    · exact Ev_if h2 (Ev.now _)
    · refine Ev_ifn h2 (Ev.bind (spec_Under_eq a b (by omega) (by omega)) (Ev.bind (impl_Under_eq a b (by omega) (by omega)) ?_))
      exact Ev_ifn (by simp) (Ev.now _)

end Go.Proofs.YtmniijljolchjaaDoor.Pure
