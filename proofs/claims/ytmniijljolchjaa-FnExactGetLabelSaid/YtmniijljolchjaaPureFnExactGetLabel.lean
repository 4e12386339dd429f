/- For all byte slices and offsets the program's GetLabel returns what the reference's returns, and leaves its argument alone. No condition. -/
import Derived.Test.YtmniijljolchjaaY
import Derived.Test.YtmniijljolchjaaLbytes
import Derived.Test.YtmniijljolchjaaLglabel
import Derived.Test.YtmniijljolchjaaPrx6
namespace Go.Proofs.Ytmniijljolchjaa.Pure
open Go.RowKit Go.Proofs.Ytmniijljolchjaa.Pr Go.Proofs.Ytmniijljolchjaa.X Go.Proofs.Ytmniijljolchjaa.Y Go.Proofs.Ytmniijljolchjaa.Lem Go.Proofs.YtmniijljolchjaaW.PrintWords Go.Proofs.YtmniijljolchjaaW.PrintLast Go.Proofs.YtmniijljolchjaaW.PrintMore
set_option linter.unusedVariables false
set_option linter.unusedSimpArgs false
theorem FnExactGetLabel : laws_FnExactGetLabel.Pure := by
  intro l i hl0 hi
  obtain ⟨_, hn, hw⟩ := hl0
  have hn' : l.length ≤ 140737488351232 := by omega
  have hb := wf_bytes hw
  have wi := wf_int hi
  refine Ev.rounds ?_ (r := true)
  unfold laws_FnExactGetLabel.f
  by_cases hbig : (l.length : Int) > 1048576
  · simp only [if_pos hbig]
    exact Ev.now _
  · simp only [if_neg hbig]
    refine Ev.bind (toByteS_eq l hn') ?_
    refine Ev.bind (spec_GetLabel_eq l hn' hb i wi) ?_
    refine Ev.bind (toByteS_eq l hn') ?_
    refine Ev.bind (impl_GetLabel_eq l hn' hb i wi) ?_
    simp only [if_true, bne_self_eq_false, if_neg (show ¬ (false = true) by decide)]
    refine Ev.bind (toByteS_eq l hn') ?_
    refine Ev.bind (eqByteS_same l hn') ?_
    simp only [if_true]
    exact Ev.now _

end Go.Proofs.Ytmniijljolchjaa.Pure
