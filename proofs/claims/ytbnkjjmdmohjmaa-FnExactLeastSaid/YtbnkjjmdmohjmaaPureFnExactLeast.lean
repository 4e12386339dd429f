/- For all integers the program's Least returns what the reference's returns. No condition. -/
import Derived.Test.YtbnkjjmdmohjmaaPFnExactLeastx1
namespace Go.Proofs.Ytbnkjjmdmohjmaa.Pure
open Go.RowKit Go.Proofs.Ytbnkjjmdmohjmaa.PFnExactLeast Go.Proofs.YtbnkjjmdmohjmaaW.PrintWords Go.Proofs.YtbnkjjmdmohjmaaW.PrintLast Go.Proofs.YtbnkjjmdmohjmaaW.PrintMore

theorem FnExactLeast : laws_FnExactLeast.Pure := by
  intro a b _ _
  unfold laws_FnExactLeast.f spec_Least.f impl_Least.f mn
  by_cases h : b < a <;> simp [h]

end Go.Proofs.Ytbnkjjmdmohjmaa.Pure
