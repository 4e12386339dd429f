/- For all integers the program's TypeText returns what the reference's returns. No condition. -/
import Derived.Test.YtbnkjjmdmohjmaaPFnExactTypeTextx1
namespace Go.Proofs.Ytbnkjjmdmohjmaa.Pure
open Go.RowKit Go.Proofs.Ytbnkjjmdmohjmaa.PFnExactTypeText Go.Proofs.YtbnkjjmdmohjmaaW.PrintWords Go.Proofs.YtbnkjjmdmohjmaaW.PrintLast

theorem typeText_same (a : Int) : spec_TypeText.f a = impl_TypeText.f a := rfl
theorem typeText_some (a : Int) : ∃ t, impl_TypeText.f a = some t := by
  unfold impl_TypeText.f
  repeat' split
  all_goals exact ⟨_, rfl⟩

theorem FnExactTypeText : laws_FnExactTypeText.Pure := by
  intro a _
  obtain ⟨t, ht⟩ := typeText_some a
  unfold laws_FnExactTypeText.f
  rw [typeText_same, ht]
  simp only [Option.bind_some, if_true]

end Go.Proofs.Ytbnkjjmdmohjmaa.Pure
