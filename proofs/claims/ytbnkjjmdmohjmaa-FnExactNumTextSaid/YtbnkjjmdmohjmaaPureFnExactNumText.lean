/- For all integers the program's NumText returns what the reference's returns. No condition. -/
import Derived.Test.YtbnkjjmdmohjmaaX
import Derived.Test.YtbnkjjmdmohjmaaLnum
import Derived.Test.YtbnkjjmdmohjmaaLnum2
import Derived.Test.YtbnkjjmdmohjmaaPrx2
namespace Go.Proofs.Ytbnkjjmdmohjmaa.Pure
open Go.RowKit Go.Proofs.Ytbnkjjmdmohjmaa.Pr Go.Proofs.Ytbnkjjmdmohjmaa.X Go.Proofs.Ytbnkjjmdmohjmaa.Lem Go.Proofs.YtbnkjjmdmohjmaaW.PrintWords Go.Proofs.YtbnkjjmdmohjmaaW.PrintLast Go.Proofs.YtbnkjjmdmohjmaaW.PrintMore
set_option linter.unusedVariables false
set_option linter.unusedSimpArgs false
theorem FnExactNumText : laws_FnExactNumText.Pure := by
  intro n hn
  have wi := wf_int hn
  refine Ev.rounds ?_ (r := true)
  unfold laws_FnExactNumText.f
  refine Ev.bind (spec_NumText_eq n wi) (Ev.bind (impl_NumText_eq n wi) ?_)
  simp only [if_true]
  exact Ev.now _

end Go.Proofs.Ytbnkjjmdmohjmaa.Pure
