/- For all integers the program's CodeName returns what the reference's returns. No condition. -/
import Derived.Test.YtbnkjjmdmohjmaaPFnExactCodeNamex1
namespace Go.Proofs.Ytbnkjjmdmohjmaa.Pure
open Go.RowKit Go.Proofs.Ytbnkjjmdmohjmaa.PFnExactCodeName Go.Proofs.YtbnkjjmdmohjmaaW.PrintWords Go.Proofs.YtbnkjjmdmohjmaaW.PrintLast

theorem codeName_same (a : Int) : spec_CodeName.f a = impl_CodeName.f a := by
  by_cases h : a = 0 ∨ a = 1 ∨ a = 2 ∨ a = 3 ∨ a = 4
  · rcases h with rfl | rfl | rfl | rfl | rfl <;> decide +kernel
  · have h0 : ¬ a = 0 := fun e => h (.inl e)
    have h1 : ¬ a = 1 := fun e => h (.inr (.inl e))
    have h2 : ¬ a = 2 := fun e => h (.inr (.inr (.inl e)))
    have h3 : ¬ a = 3 := fun e => h (.inr (.inr (.inr (.inl e))))
    have h4 : ¬ a = 4 := fun e => h (.inr (.inr (.inr (.inr e))))
    have hi : impl_CodeName.f a = some (⟨#[]⟩ : ByteArray) := by
      unfold impl_CodeName.f
      rw [if_neg h0, if_neg h1, if_neg h2, if_neg h3, if_neg h4]
    rw [hi]
    unfold spec_CodeName.f
    simp only [Option.bind_some, List.length_cons, List.length_nil]
    have hw : wrap64 (((0 + 1 + 1 + 1 + 1 + 1 : Nat) : Int) - 1) = 4 := by unfold wrap64; omega
    rw [hw]
    have hl : spec_l1In.f a 0 4 = some false := by
      unfold spec_l1In.f
      by_cases hp : a ≥ 0
      · rw [if_pos hp]
        have : ¬ a ≤ 4 := by omega
        simp [this]
      · rw [if_neg hp]
    rw [hl]
    simp
theorem codeName_some (a : Int) : ∃ t, impl_CodeName.f a = some t := by
  unfold impl_CodeName.f
  repeat' split
  all_goals exact ⟨_, rfl⟩

theorem FnExactCodeName : laws_FnExactCodeName.Pure := by
  intro a _
  obtain ⟨t, ht⟩ := codeName_some a
  unfold laws_FnExactCodeName.f
  rw [codeName_same, ht]
  simp only [Option.bind_some, if_true]

end Go.Proofs.Ytbnkjjmdmohjmaa.Pure
