/- For all messages the program's SameMsg returns what the reference's returns, and leaves its arguments alone. No condition. -/
import Derived.Test.YtmniijljolchjaaY
import Derived.Test.YtmniijljolchjaaLmsg
import Derived.Test.YtmniijljolchjaaLmsg4
import Derived.Test.YtmniijljolchjaaLmsg5
import Derived.Test.YtmniijljolchjaaLmsg6
import Derived.Test.YtmniijljolchjaaLrec
import Derived.Test.YtmniijljolchjaaPrx9
namespace Go.Proofs.Ytmniijljolchjaa.Pure
open Go.RowKit Go.Proofs.Ytmniijljolchjaa.Pr Go.Proofs.Ytmniijljolchjaa.X Go.Proofs.Ytmniijljolchjaa.Y Go.Proofs.Ytmniijljolchjaa.Lem Go.Proofs.YtmniijljolchjaaW.PrintWords Go.Proofs.YtmniijljolchjaaW.PrintLast Go.Proofs.YtmniijljolchjaaW.PrintMore
set_option linter.unusedVariables false
set_option linter.unusedSimpArgs false
theorem FnExactSameMsg : laws_FnExactSameMsg.Pure := by
  intro a0 a1 a2 a3 a4 a5 a6 a7 a8 l9 l10 l11 b0 b1 b2 b3 b4 b5 b6 b7 b8 m9 m10 m11 h h'
  obtain ⟨h7, h9, h10, h11⟩ := g_okM h
  obtain ⟨i7, i9, i10, i11⟩ := g_okM h'
  refine Ev.rounds ?_ (r := true)
  unfold laws_FnExactSameMsg.f
  obtain ⟨r, e, b, c, d⟩ := szMsgG_eq a0 a1 a2 a3 a4 a5 a6 a7 a8 l9 l10 l11 1048576 (by omega) h7 h9 h10 h11
  refine Ev.bind e ?_
  by_cases z : r < 0
  · simp only [if_pos z]
    exact Ev.now _
  · simp only [if_neg z]
    obtain ⟨r', e', b', c', d'⟩ := szMsgG_eq b0 b1 b2 b3 b4 b5 b6 b7 b8 m9 m10 m11 r (by omega) i7 i9 i10 i11
    refine Ev.bind e' ?_
    by_cases z' : r' < 0
    · simp only [if_pos z']
      exact Ev.now _
    · simp only [if_neg z']
      obtain ⟨n9, n10, n11⟩ := d (by omega)
      obtain ⟨o9, o10, o11⟩ := d' (by omega)
      have c9 : (l9.map cvR).length ≤ 140737488351232 := by rw [List.length_map]; omega
      have c10 : (l10.map cvR).length ≤ 140737488351232 := by rw [List.length_map]; omega
      have c11 : (l11.map cvR).length ≤ 140737488351232 := by rw [List.length_map]; omega
      have d9 : (m9.map cvR).length ≤ 140737488351232 := by rw [List.length_map]; omega
      have d10 : (m10.map cvR).length ≤ 140737488351232 := by rw [List.length_map]; omega
      have d11 : (m11.map cvR).length ≤ 140737488351232 := by rw [List.length_map]; omega
      refine Ev.bind (toMsg_eq _ _ _ _ _ _ _ _ _ _ _ _ n9 n10 n11) ?_
      refine Ev.bind (toMsg_eq _ _ _ _ _ _ _ _ _ _ _ _ o9 o10 o11) ?_
      refine Ev.bind (spec_SameMsg_eq _ _ _ _ _ _ _ _ _ _ _ _ _ _ _ _ _ _ _ _ _ _ _ _ c9 c10 c11) ?_
      refine Ev.bind (toMsg_eq _ _ _ _ _ _ _ _ _ _ _ _ n9 n10 n11) ?_
      refine Ev.bind (toMsg_eq _ _ _ _ _ _ _ _ _ _ _ _ o9 o10 o11) ?_
      refine Ev.bind (impl_SameMsg_eq _ _ _ _ _ _ _ _ _ _ _ _ _ _ _ _ _ _ _ _ _ _ _ _ c9 c10 c11) ?_
      simp only [bne_self_eq_false, if_neg (show ¬ (false = true) by decide)]
      refine Ev.bind (toMsg_eq _ _ _ _ _ _ _ _ _ _ _ _ n9 n10 n11) ?_
      refine Ev.bind (eqMsg_same _ _ _ _ _ _ _ _ _ _ _ _ c9 c10 c11) ?_
      simp only [if_true]
      refine Ev.bind (toMsg_eq _ _ _ _ _ _ _ _ _ _ _ _ o9 o10 o11) ?_
      refine Ev.bind (eqMsg_same _ _ _ _ _ _ _ _ _ _ _ _ d9 d10 d11) ?_
      simp only [if_true]
      exact Ev.now _

end Go.Proofs.Ytmniijljolchjaa.Pure
