/- For all strings the program's ParseNum returns what the reference's returns. No condition. -/
import Derived.Test.YtbnkjjmdmohjmaaX
import Derived.Test.YtbnkjjmdmohjmaaLparse
import Derived.Test.YtbnkjjmdmohjmaaPrx3
namespace Go.Proofs.Ytbnkjjmdmohjmaa.Pure
open Go.RowKit Go.Proofs.Ytbnkjjmdmohjmaa.Pr Go.Proofs.Ytbnkjjmdmohjmaa.X Go.Proofs.Ytbnkjjmdmohjmaa.Lem Go.Proofs.YtbnkjjmdmohjmaaW.PrintWords Go.Proofs.YtbnkjjmdmohjmaaW.PrintLast Go.Proofs.YtbnkjjmdmohjmaaW.PrintMore
set_option linter.unusedVariables false
set_option linter.unusedSimpArgs false
theorem FnExactParseNum : laws_FnExactParseNum.Pure := by
  intro s hs
  refine Ev.rounds ?_ (r := true)
  unfold laws_FnExactParseNum.f
  by_cases hbig : (s.size : Int) > 1048576
  · simp only [if_pos hbig]
    exact Ev.now _
  · simp only [if_neg hbig]
    refine Ev.bind (spec_ParseNum_eq s) (Ev.bind (impl_ParseNum_eq s) ?_)
    simp
    exact Ev.now _

end Go.Proofs.Ytbnkjjmdmohjmaa.Pure
