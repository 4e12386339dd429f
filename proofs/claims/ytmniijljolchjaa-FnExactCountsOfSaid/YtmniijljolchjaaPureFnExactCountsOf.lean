/- For all messages the program's CountsOf returns what the reference's returns, and leaves its argument alone. No condition. -/
import Derived.Test.YtmniijljolchjaaY
import Derived.Test.YtmniijljolchjaaLmsg
import Derived.Test.YtmniijljolchjaaLmsg4
import Derived.Test.YtmniijljolchjaaLmsg7
import Derived.Test.YtmniijljolchjaaLrec
import Derived.Test.YtmniijljolchjaaPrx10
namespace Go.Proofs.Ytmniijljolchjaa.Pure
open Go.RowKit Go.Proofs.Ytmniijljolchjaa.Pr Go.Proofs.Ytmniijljolchjaa.X Go.Proofs.Ytmniijljolchjaa.Y Go.Proofs.Ytmniijljolchjaa.Lem Go.Proofs.YtmniijljolchjaaW.PrintWords Go.Proofs.YtmniijljolchjaaW.PrintLast Go.Proofs.YtmniijljolchjaaW.PrintMore
set_option linter.unusedVariables false
set_option linter.unusedSimpArgs false
theorem FnExactCountsOf : laws_FnExactCountsOf.Pure := by
  intro a0 a1 a2 a3 a4 a5 a6 a7 a8 l9 l10 l11 h
  obtain ⟨h7, h9, h10, h11⟩ := g_okM h
  refine Ev.rounds ?_ (r := true)
  unfold laws_FnExactCountsOf.f
  obtain ⟨r, e, b, c, d⟩ := szMsg_eq a0 a1 a2 a3 a4 a5 a6 a7 a8 l9 l10 l11 h7 h9 h10 h11
  refine Ev.bind e ?_
  by_cases z : r < 0
  · exact Ev_if z (Ev.now _)
  · refine Ev_ifn z ?_
    obtain ⟨m9, m10, m11⟩ := d (by omega)
    have c9 : (l9.map cvR).length ≤ 140737488351232 := by rw [List.length_map]; omega
    have c10 : (l10.map cvR).length ≤ 140737488351232 := by rw [List.length_map]; omega
    have c11 : (l11.map cvR).length ≤ 140737488351232 := by rw [List.length_map]; omega
    refine Ev.bind (toMsg_eq _ _ _ _ _ _ _ _ _ _ _ _ m9 m10 m11) ?_
    refine Ev.bind (spec_CountsOf_eq _ _ _ _ _ _ _ _ _ _ _ _) ?_
    refine Ev.bind (toMsg_eq _ _ _ _ _ _ _ _ _ _ _ _ m9 m10 m11) ?_
    refine Ev.bind (impl_CountsOf_eq _ _ _ _ _ _ _ _ _ _ _ _) ?_
    refine Ev_if rfl ?_
    refine Ev.bind (toMsg_eq _ _ _ _ _ _ _ _ _ _ _ _ m9 m10 m11) ?_
    refine Ev.bind (eqMsg_same _ _ _ _ _ _ _ _ _ _ _ _ c9 c10 c11) ?_
    exact Ev_if rfl (Ev.now _)

end Go.Proofs.Ytmniijljolchjaa.Pure
