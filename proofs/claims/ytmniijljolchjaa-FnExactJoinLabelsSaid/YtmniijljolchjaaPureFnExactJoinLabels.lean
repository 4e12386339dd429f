/- For all lists of strings the program's JoinLabels returns what the reference's returns, and leaves its argument alone. No condition. -/
import Derived.Test.YtmniijljolchjaaY
import Derived.Test.YtmniijljolchjaaLjoins
import Derived.Test.YtmniijljolchjaaLstrs
import Derived.Test.YtmniijljolchjaaLstrs2
import Derived.Test.YtmniijljolchjaaPrx9
namespace Go.Proofs.Ytmniijljolchjaa.Pure
open Go.RowKit Go.Proofs.Ytmniijljolchjaa.Pr Go.Proofs.Ytmniijljolchjaa.X Go.Proofs.Ytmniijljolchjaa.Y Go.Proofs.Ytmniijljolchjaa.Lem Go.Proofs.YtmniijljolchjaaW.PrintWords Go.Proofs.YtmniijljolchjaaW.PrintLast Go.Proofs.YtmniijljolchjaaW.PrintMore
set_option linter.unusedVariables false
set_option linter.unusedSimpArgs false
theorem FnExactJoinLabels : laws_FnExactJoinLabels.Pure := by
  intro l hl0
  obtain ⟨_, hn, hg⟩ := hl0
  refine Ev.rounds ?_ (r := true)
  unfold laws_FnExactJoinLabels.f
  obtain ⟨r, hr, r0, r1, r2⟩ := szStringS_eq l (by omega) hg 1048576 (by omega)
  refine Ev.bind hr ?_
  by_cases c : r < 0
  · simp only [if_pos c]
    exact Ev.now _
  · simp only [if_neg c]
    have hsz := r2 (by omega)
    have hla : l.length ≤ 1048576 := by omega
    refine Ev.bind (toStringS_eq l hla) (Ev.bind (spec_JoinLabels_eq l (by omega)) (Ev.bind (toStringS_eq l hla) ?_))
    simp only [impl_JoinLabels_eq l (by omega), Option.bind_some, if_true]
    refine Ev.bind (toStringS_eq l hla) (Ev.bind (eqStringS_same l (by omega)) ?_)
    simp only [if_true]
    exact Ev.now _

end Go.Proofs.Ytmniijljolchjaa.Pure
