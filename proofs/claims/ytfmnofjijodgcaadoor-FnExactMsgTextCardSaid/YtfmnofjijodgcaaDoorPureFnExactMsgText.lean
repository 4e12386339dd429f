/- For all messages the program's MsgText returns what the reference's returns, and leaves its argument alone. No condition. -/
import Derived.Test.YtfmnofjijodgcaaDoorY
import Derived.Test.YtfmnofjijodgcaaDoorLMExactMsgText1
import Derived.Test.YtfmnofjijodgcaaDoorPrx0
import Derived.Test.YtfmnofjijodgcaaDoorPrx13
namespace Go.Proofs.YtfmnofjijodgcaaDoor.Pure
open Go.RowKit Go.Proofs.YtfmnofjijodgcaaDoor.Pr Go.Proofs.YtfmnofjijodgcaaDoor.X Go.Proofs.YtfmnofjijodgcaaDoor.Y Go.Proofs.YtfmnofjijodgcaaDoor.Lem Go.Proofs.YtfmnofjijodgcaaDoorW.PrintWords Go.Proofs.YtfmnofjijodgcaaDoorW.PrintLast Go.Proofs.YtfmnofjijodgcaaDoorW.PrintMore
set_option linter.unusedVariables false
set_option linter.unusedSimpArgs false
theorem FnExactMsgText : laws_FnExactMsgText.Pure := by
  intro a0 a1 a2 a3 a4 a5 a6 a7 a8 l9 l10 l11 h
  obtain ⟨h7, h9, h10, h11⟩ := g_okM h
  refine Ev.rounds ?_ (r := true)
  unfold laws_FnExactMsgText.f
  obtain ⟨r, e, b, c, d⟩ := szMsgF_eq a0 a1 a2 a3 a4 a5 a6 a7 a8 l9 l10 l11 h7 h9 h10 h11
  refine Ev.bind e ?_
  by_cases z : r < 0
  · exact Ev_if z (Ev.now _)
  · refine Ev_ifn z ?_
    obtain ⟨n7, n9, n10, n11⟩ := d (by omega)
    have c9 := fitRs_cv n9
    have c10 := fitRs_cv n10
    have c11 := fitRs_cv n11
    have ht := toMsg_eq a0 a1 a2 a3 a4 a5 a6 a7 a8 l9 l10 l11 n9.1 n10.1 n11.1
    obtain ⟨t, q1, q2⟩ := msgText_both a0 a1 a2 a3 a4 a5 a6 a7 a8 (l9.map cvR) (l10.map cvR) (l11.map cvR) n7 c9 c10 c11
    refine Ev.bind ht (Ev.bind q1 (Ev.bind ht (Ev.bind q2 (Ev_if rfl (Ev.bind ht ?_)))))
    have k9 : (l9.map cvR).length ≤ 140737488351232 := Nat.le_trans c9.1 (by decide)
    have k10 : (l10.map cvR).length ≤ 140737488351232 := Nat.le_trans c10.1 (by decide)
    have k11 : (l11.map cvR).length ≤ 140737488351232 := Nat.le_trans c11.1 (by decide)
    exact Ev.bind (eqMsg_same _ _ _ _ _ _ _ _ _ _ _ _ k9 k10 k11) (Ev_if rfl (Ev.now _))

end Go.Proofs.YtfmnofjijodgcaaDoor.Pure
