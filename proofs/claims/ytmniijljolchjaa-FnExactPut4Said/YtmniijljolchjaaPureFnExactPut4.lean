/- For all byte slices and integers the program's Put4 returns what the reference's returns, in memory of its own, and leaves its argument alone. No condition. -/
import Derived.Test.YtmniijljolchjaaY
import Derived.Test.YtmniijljolchjaaLbytes
import Derived.Test.YtmniijljolchjaaLmark
import Derived.Test.YtmniijljolchjaaLput
import Derived.Test.YtmniijljolchjaaPrx4
namespace Go.Proofs.Ytmniijljolchjaa.Pure
open Go.RowKit Go.Proofs.Ytmniijljolchjaa.Pr Go.Proofs.Ytmniijljolchjaa.X Go.Proofs.Ytmniijljolchjaa.Y Go.Proofs.Ytmniijljolchjaa.Lem Go.Proofs.YtmniijljolchjaaW.PrintWords Go.Proofs.YtmniijljolchjaaW.PrintLast Go.Proofs.YtmniijljolchjaaW.PrintMore
set_option linter.unusedVariables false
set_option linter.unusedSimpArgs false
theorem FnExactPut4 : laws_FnExactPut4.Pure := by
  intro l n hl0 hi
  obtain ⟨_, hn, hw⟩ := hl0
  have hn' : l.length ≤ 140737488351232 := by omega
  refine Ev.rounds ?_ (r := true)
  unfold laws_FnExactPut4.f
  by_cases hbig : (l.length : Int) > 1048576
  · simp only [if_pos hbig]
    exact Ev.now _
  · simp only [if_neg hbig]
    have hle := put4_le l n
    refine Ev.bind (toByteS_eq l hn') ?_
    simp only [spec_Put4_eq l hn', Option.bind_some]
    refine Ev.bind (toByteS_eq l hn') ?_
    refine Ev.bind (impl_Put4_eq l hn' n) ?_
    obtain ⟨r, hr⟩ : ∃ r, put4 l n = r := ⟨_, rfl⟩
    rw [hr] at hle
    simp only [hr]
    refine Ev.bind (eqByteS_same r (by omega)) ?_
    simp only [if_true]
    refine Ev.bind (toByteS_eq l hn') ?_
    refine Ev.bind (eqByteS_same l hn') ?_
    simp only [if_true]
    refine Ev.bind (markByteS_eq l (by omega)) ?_
    have n1 : ¬ (1 + (l.length : Int)) < 0 := by omega
    simp only [if_neg n1]
    refine Ev.bind (eqByteS_same r (by omega)) ?_
    simp only [if_true]
    refine Ev.bind (markByteS_eq r (by omega)) ?_
    refine Ev.bind (heldByteS_eq r.length (by omega)) ?_
    have n2 : ¬ (1 + (r.length : Int)) < 0 := by omega
    simp only [if_neg n2, if_true]
    refine Ev.bind (toByteS_eq l hn') ?_
    refine Ev.bind (impl_Put4_eq l hn' n) ?_
    rw [hr]
    refine Ev.bind (eqByteS_same r (by omega)) ?_
    simp only [if_true]
    refine Ev.bind (heldByteS_eq r.length (by omega)) ?_
    simp only [if_neg n2, if_true]
    exact Ev.now _

end Go.Proofs.Ytmniijljolchjaa.Pure
