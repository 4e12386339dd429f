/- For all integers the program's Most returns what the reference's returns. No condition. -/
import Derived.Test.YtbnkjjmdmohjmaaPFnExactMostx1
namespace Go.Proofs.Ytbnkjjmdmohjmaa.Pure
open Go.RowKit Go.Proofs.Ytbnkjjmdmohjmaa.PFnExactMost Go.Proofs.YtbnkjjmdmohjmaaW.PrintWords Go.Proofs.YtbnkjjmdmohjmaaW.PrintLast Go.Proofs.YtbnkjjmdmohjmaaW.PrintMore

theorem FnExactMost : laws_FnExactMost.Pure := by
  intro a b _ _
  unfold laws_FnExactMost.f spec_Most.f impl_Most.f mx
  by_cases h : a < b <;> simp [h]

end Go.Proofs.Ytbnkjjmdmohjmaa.Pure
