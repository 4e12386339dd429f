/- For all strings the program's Fold returns what the reference's returns. No condition. -/
import Derived.Test.YtbnkjjmdmohjmaaX
import Derived.Test.YtbnkjjmdmohjmaaPrx3
namespace Go.Proofs.Ytbnkjjmdmohjmaa.Pure
open Go.RowKit Go.Proofs.Ytbnkjjmdmohjmaa.Pr Go.Proofs.Ytbnkjjmdmohjmaa.X Go.Proofs.YtbnkjjmdmohjmaaW.PrintWords Go.Proofs.YtbnkjjmdmohjmaaW.PrintLast Go.Proofs.YtbnkjjmdmohjmaaW.PrintMore
set_option linter.unusedVariables false
set_option linter.unusedSimpArgs false
theorem FnExactFold : laws_FnExactFold.Pure := by
  intro s hs
  unfold laws_FnExactFold.f spec_Fold.f impl_Fold.f
  by_cases hb : (s.size : Int) > 1048576
  · rw [if_pos hb]
  · rw [if_neg hb, if_pos (by omega)]
    simp

end Go.Proofs.Ytbnkjjmdmohjmaa.Pure
