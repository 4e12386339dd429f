/- For all messages, codes and lists of records the program's ReplyTo returns what the reference's returns, in memory of its own, and leaves its arguments alone. No condition. -/
import Derived.Test.YtmcldfjfgmhklaaY
import Derived.Test.YtmcldfjfgmhklaaLMExactReplyTo1
import Derived.Test.YtmcldfjfgmhklaaPrx0
import Derived.Test.YtmcldfjfgmhklaaPrx1
import Derived.Test.YtmcldfjfgmhklaaPrx2
import Derived.Test.YtmcldfjfgmhklaaPrx6
namespace Go.Proofs.Ytmcldfjfgmhklaa.Pure
open Go.RowKit Go.Proofs.Ytmcldfjfgmhklaa.Pr Go.Proofs.Ytmcldfjfgmhklaa.X Go.Proofs.Ytmcldfjfgmhklaa.Y Go.Proofs.Ytmcldfjfgmhklaa.Lem Go.Proofs.YtmcldfjfgmhklaaW.PrintWords Go.Proofs.YtmcldfjfgmhklaaW.PrintLast Go.Proofs.YtmcldfjfgmhklaaW.PrintMore
set_option linter.unusedVariables false
set_option linter.unusedSimpArgs false
theorem FnExactReplyTo : laws_FnExactReplyTo.Pure := by
  intro a0 a1 a2 a3 a4 a5 a6 a7 a8 l9 l10 l11 q1 q2 l3 l4 l5 h hq h3 h4 h5
  obtain ⟨h7, h9, h10, h11⟩ := g_okM h
  obtain ⟨_, n3, g3⟩ := h3
  obtain ⟨_, n4, g4⟩ := h4
  obtain ⟨_, n5, g5⟩ := h5
  refine Ev.rounds ?_ (r := true)
  unfold laws_FnExactReplyTo.f
  obtain ⟨r, e, b, c, d⟩ := szMsg_eq a0 a1 a2 a3 a4 a5 a6 a7 a8 l9 l10 l11 h7 h9 h10 h11
  refine Ev.bind e ?_
  by_cases z : r < 0
  · exact Ev_if z (Ev.now _)
  refine Ev_ifn z ?_
  obtain ⟨m9, m10, m11⟩ := d (by omega)
  obtain ⟨r3, e3, b3, c3, d3⟩ := szRecordS_eq l3 (by omega) (fun y hy => g_okR (g3 y hy)) r (by omega)
  refine Ev.bind e3 ?_
  by_cases z3 : r3 < 0
  · exact Ev_if z3 (Ev.now _)
  refine Ev_ifn z3 ?_
  obtain ⟨r4, e4, b4, c4, d4⟩ := szRecordS_eq l4 (by omega) (fun y hy => g_okR (g4 y hy)) r3 (by omega)
  refine Ev.bind e4 ?_
  by_cases z4 : r4 < 0
  · exact Ev_if z4 (Ev.now _)
  refine Ev_ifn z4 ?_
  obtain ⟨r5, e5, b5, c5, d5⟩ := szRecordS_eq l5 (by omega) (fun y hy => g_okR (g5 y hy)) r4 (by omega)
  refine Ev.bind e5 ?_
  by_cases z5 : r5 < 0
  · exact Ev_if z5 (Ev.now _)
  refine Ev_ifn z5 ?_
  have m3 : l3.length ≤ 1048576 := by have := d3 (by omega); omega
  have m4 : l4.length ≤ 1048576 := by have := d4 (by omega); omega
  have m5 : l5.length ≤ 1048576 := by have := d5 (by omega); omega
  have tm := toMsg_eq a0 a1 a2 a3 a4 a5 a6 a7 a8 l9 l10 l11 m9 m10 m11
  have t3 := toRecordS_eq l3 m3
  have t4 := toRecordS_eq l4 m4
  have t5 := toRecordS_eq l5 m5
  have k9 : (l9.map cvR).length ≤ 1048576 := by rw [List.length_map]; exact m9
  have k10 : (l10.map cvR).length ≤ 1048576 := by rw [List.length_map]; exact m10
  have k11 : (l11.map cvR).length ≤ 1048576 := by rw [List.length_map]; exact m11
  have k3 : (l3.map cvR).length ≤ 1048576 := by rw [List.length_map]; exact m3
  have k4 : (l4.map cvR).length ≤ 1048576 := by rw [List.length_map]; exact m4
  have k5 : (l5.map cvR).length ≤ 1048576 := by rw [List.length_map]; exact m5
  generalize l9.map cvR = x9 at *
  generalize l10.map cvR = x10 at *
  generalize l11.map cvR = x11 at *
  generalize l3.map cvR = x3 at *
  generalize l4.map cvR = x4 at *
  generalize l5.map cvR = x5 at *
  have es : spec_ReplyTo.f a0 a1 a2 a3 a4 a5 a6 a7 a8 x9 x10 x11 q1 q2 x3 x4 x5 = some (a0, true, q2, false, a4, false, q1, a7, a8, x3, x4, x5) := by
    unfold spec_ReplyTo.f spec_l7Copy.f
    simp only [Option.bind_some, List.length_nil, List.nil_append, Nat.zero_add]
    rw [if_pos (by omega), if_pos (by omega), if_pos (by omega)]
    rfl
  have ei : impl_ReplyTo.f a0 a1 a2 a3 a4 a5 a6 a7 a8 x9 x10 x11 q1 q2 x3 x4 x5 = some (a0, true, q2, false, a4, false, q1, a7, a8, x3, x4, x5) := by
    unfold impl_ReplyTo.f impl_copyMsg.f slices_Clone_impl_Record.f
    simp only [Option.bind_some, List.length_nil, List.nil_append, Nat.zero_add]
    rw [if_pos (by omega), if_pos (by omega), if_pos (by omega)]
    rfl
  have em := eqMsg_same a0 a1 a2 a3 a4 a5 a6 a7 a8 x9 x10 x11 (by omega) (by omega) (by omega)
  have er := eqMsg_same a0 true q2 false a4 false q1 a7 a8 x3 x4 x5 (by omega) (by omega) (by omega)
  have mm := markMsg_eq a0 a1 a2 a3 a4 a5 a6 a7 a8 x9 x10 x11 (by omega) (by omega) (by omega)
  have mr := markMsg_eq a0 true q2 false a4 false q1 a7 a8 x3 x4 x5 (by omega) (by omega) (by omega)
  have hr := heldMsg_eq a0 true q2 false a4 false q1 a7 a8 x3.length x4.length x5.length (by omega) (by omega) (by omega)
  have s3 := eqRecordS_same x3 (by omega)
  have s4 := eqRecordS_same x4 (by omega)
  have s5 := eqRecordS_same x5 (by omega)
  refine Ev.bind tm (Ev.bind t3 (Ev.bind t4 (Ev.bind t5 (Ev.bind (Ev_c es) (Ev.bind tm (Ev.bind t3 (Ev.bind t4 (Ev.bind t5 (Ev.bind (Ev_c ei) (Ev.bind er (Ev_if rfl ?_)))))))))))
  refine Ev.bind tm (Ev.bind em (Ev_if rfl (Ev.bind t3 (Ev.bind s3 (Ev_if rfl (Ev.bind t4 (Ev.bind s4 (Ev_if rfl (Ev.bind t5 (Ev.bind s5 (Ev_if rfl ?_)))))))))))
  refine Ev.bind mm (Ev.bind (markRecordS_eq x3 (by omega) _ (by omega)) (Ev.bind (markRecordS_eq x4 (by omega) _ (by omega)) (Ev.bind (markRecordS_eq x5 (by omega) _ (by omega)) (Ev_ifn (by omega) ?_))))
  refine Ev.bind er (Ev_if rfl (Ev.bind mr (Ev.bind hr (Ev_ifn (by omega) (Ev_if rfl ?_)))))
  exact Ev.bind tm (Ev.bind t3 (Ev.bind t4 (Ev.bind t5 (Ev.bind (Ev_c ei) (Ev.bind er (Ev_if rfl (Ev.bind hr (Ev_ifn (by omega) (Ev_if rfl (Ev.now _))))))))))

end Go.Proofs.Ytmcldfjfgmhklaa.Pure
