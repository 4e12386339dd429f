/- For all strings the program's PartsOf returns what the reference's returns. No condition. -/
import Derived.Test.YtmniijljolchjaaDoorY
import Derived.Test.YtmniijljolchjaaDoorLev
import Derived.Test.YtmniijljolchjaaDoorLlabels
import Derived.Test.YtmniijljolchjaaDoorPrx0
import Derived.Test.YtmniijljolchjaaDoorPrx2
namespace Go.Proofs.YtmniijljolchjaaDoor.Pure
open Go.RowKit Go.Proofs.YtmniijljolchjaaDoor.Pr Go.Proofs.YtmniijljolchjaaDoor.X Go.Proofs.YtmniijljolchjaaDoor.Y Go.Proofs.YtmniijljolchjaaDoor.Lem Go.Proofs.YtmniijljolchjaaDoorW.PrintWords Go.Proofs.YtmniijljolchjaaDoorW.PrintLast Go.Proofs.YtmniijljolchjaaDoorW.PrintMore
set_option linter.unusedVariables false
set_option linter.unusedSimpArgs false
theorem FnExactPartsOf : laws_FnExactPartsOf.Pure := by
  intro s hs
  refine Ev.rounds ?_ (r := true)
  unfold laws_FnExactPartsOf.f
  by_cases hbig : (s.size : Int) > 1048576
  · exact Ev_if hbig (Ev.now _)
  · refine Ev_ifn hbig ?_
    unfold spec_PartsOf.f impl_PartsOf.f
    rw [impl_Labels_eq s (by omega)]
    refine Ev.bind (Ev.bind (spec_Labels_eq s (by omega)) (Ev.now _)) ?_
    exact Ev_if rfl (Ev.now _)

end Go.Proofs.YtmniijljolchjaaDoor.Pure
