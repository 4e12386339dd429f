/- For all integers the program's TypeOk returns what the reference's returns. No condition. -/
import Derived.Test.YtbnkjjmdmohjmaaX
import Derived.Test.YtbnkjjmdmohjmaaPrx1
namespace Go.Proofs.Ytbnkjjmdmohjmaa.Pure
open Go.RowKit Go.Proofs.Ytbnkjjmdmohjmaa.Pr Go.Proofs.Ytbnkjjmdmohjmaa.X Go.Proofs.YtbnkjjmdmohjmaaW.PrintWords Go.Proofs.YtbnkjjmdmohjmaaW.PrintLast Go.Proofs.YtbnkjjmdmohjmaaW.PrintMore
set_option linter.unusedVariables false
set_option linter.unusedSimpArgs false

theorem typeOk_same (a : Int) : spec_TypeOk.f a = impl_TypeOk.f a := by
  unfold spec_TypeOk.f impl_TypeOk.f impl_TypeText.f
  by_cases h1 : a = 1
  · subst h1; simp [ByteArray.toList_eq]
  by_cases h2 : a = 2
  · subst h2; simp [ByteArray.toList_eq]
  by_cases h5 : a = 5
  · subst h5; simp [ByteArray.toList_eq]
  by_cases h6 : a = 6
  · subst h6; simp [ByteArray.toList_eq]
  by_cases h16 : a = 16
  · subst h16; simp [ByteArray.toList_eq]
  · rw [if_neg h1, if_neg h2, if_neg h5, if_neg h6, if_neg h1, if_neg h2, if_neg h5, if_neg h6, if_neg h16]
    have : (a == 16) = false := by simp [h16]
    rw [this]
    simp [ByteArray.toList_eq]
theorem typeOk_some (a : Int) : ∃ t, spec_TypeOk.f a = some t := by
  unfold spec_TypeOk.f
  repeat' split
  all_goals exact ⟨_, rfl⟩

theorem FnExactTypeOk : laws_FnExactTypeOk.Pure := by
  intro a _
  obtain ⟨t, ht⟩ := typeOk_some a
  unfold laws_FnExactTypeOk.f
  rw [← typeOk_same, ht]
  simp

end Go.Proofs.Ytbnkjjmdmohjmaa.Pure
