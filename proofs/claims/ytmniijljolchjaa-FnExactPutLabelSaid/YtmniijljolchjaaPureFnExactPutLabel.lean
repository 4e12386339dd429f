/- For all byte slices and strings the program's PutLabel returns what the reference's returns, in memory of its own, and leaves its argument alone. No condition. -/
import Derived.Test.YtmniijljolchjaaY
import Derived.Test.YtmniijljolchjaaLbytes
import Derived.Test.YtmniijljolchjaaLglabel
import Derived.Test.YtmniijljolchjaaLmark
import Derived.Test.YtmniijljolchjaaPrx5
namespace Go.Proofs.Ytmniijljolchjaa.Pure
open Go.RowKit Go.Proofs.Ytmniijljolchjaa.Pr Go.Proofs.Ytmniijljolchjaa.X Go.Proofs.Ytmniijljolchjaa.Y Go.Proofs.Ytmniijljolchjaa.Lem Go.Proofs.YtmniijljolchjaaW.PrintWords Go.Proofs.YtmniijljolchjaaW.PrintLast Go.Proofs.YtmniijljolchjaaW.PrintMore
set_option linter.unusedVariables false
set_option linter.unusedSimpArgs false
theorem FnExactPutLabel : laws_FnExactPutLabel.Pure := by
  intro l s hl0 hs0
  obtain ⟨_, hn, hw⟩ := hl0
  have hn' : l.length ≤ 140737488351232 := by omega
  have hs : s.size ≤ 140737488355328 := by omega
  refine Ev.rounds ?_ (r := true)
  unfold laws_FnExactPutLabel.f
  by_cases hbig : (l.length : Int) > 1048576
  · simp only [if_pos hbig]
    exact Ev.now _
  · simp only [if_neg hbig]
    by_cases hbig2 : (s.size : Int) > 1048576
    · simp only [if_pos hbig2]
      exact Ev.now _
    · simp only [if_neg hbig2]
      have hle := putLabel_le l s
      refine Ev.bind (toByteS_eq l hn') ?_
      refine Ev.bind (spec_PutLabel_eq l hn' s hs) ?_
      refine Ev.bind (toByteS_eq l hn') ?_
      refine Ev.bind (impl_PutLabel_eq l hn' s hs) ?_
      obtain ⟨r, hr⟩ : ∃ r, putLabel l s = r := ⟨_, rfl⟩
      rw [hr] at hle
      simp only [hr]
      refine Ev.bind (eqByteS_same r (by omega)) ?_
      simp only [if_true]
      refine Ev.bind (toByteS_eq l hn') ?_
      refine Ev.bind (eqByteS_same l hn') ?_
      simp only [if_true]
      refine Ev.bind (markByteS_eq l (by omega)) ?_
      have n1 : ¬ (1 + (l.length : Int)) < 0 := by omega
      simp only [if_neg n1]
      refine Ev.bind (eqByteS_same r (by omega)) ?_
      simp only [if_true]
      refine Ev.bind (markByteS_eq r (by omega)) ?_
      refine Ev.bind (heldByteS_eq r.length (by omega)) ?_
      have n2 : ¬ (1 + (r.length : Int)) < 0 := by omega
      simp only [if_neg n2, if_true]
      refine Ev.bind (toByteS_eq l hn') ?_
      refine Ev.bind (impl_PutLabel_eq l hn' s hs) ?_
      rw [hr]
      refine Ev.bind (eqByteS_same r (by omega)) ?_
      simp only [if_true]
      refine Ev.bind (heldByteS_eq r.length (by omega)) ?_
      simp only [if_neg n2, if_true]
      exact Ev.now _

end Go.Proofs.Ytmniijljolchjaa.Pure
