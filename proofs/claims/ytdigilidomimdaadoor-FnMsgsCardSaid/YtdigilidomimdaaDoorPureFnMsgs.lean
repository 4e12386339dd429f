/- For whatever is drawn: a reply has the number, the question and the Want flag of what was asked, and all records that were handed over; a question has no records; and the program's ReplyTo, AskMsg, SameMsg, MsgOk, MsgText and CountsOf return what the reference's return. No condition. -/
import Derived.Test.YtdigilidomimdaaDoorY
import Derived.Test.YtdigilidomimdaaDoorLMMsgs1
import Derived.Test.YtdigilidomimdaaDoorPrx0
import Derived.Test.YtdigilidomimdaaDoorPrx21
import Derived.Test.YtdigilidomimdaaDoorPrx4
import Derived.Test.YtdigilidomimdaaDoorPrx6
namespace Go.Proofs.YtdigilidomimdaaDoor.Pure
open Go.RowKit Go.Proofs.YtdigilidomimdaaDoor.Pr Go.Proofs.YtdigilidomimdaaDoor.X Go.Proofs.YtdigilidomimdaaDoor.Y Go.Proofs.YtdigilidomimdaaDoor.Lem Go.Proofs.YtdigilidomimdaaDoorW.PrintWords Go.Proofs.YtdigilidomimdaaDoorW.PrintLast Go.Proofs.YtdigilidomimdaaDoorW.PrintMore
set_option linter.unusedVariables false
set_option linter.unusedSimpArgs false
theorem FnMsgs : laws_FnMsgs.Pure := by
  intro l hl
  obtain ⟨_, hn, hw⟩ := hl
  refine Ev.rounds ?_ (r := true)
  unfold laws_FnMsgs.f
  rw [big_eq]
  simp only [Option.bind_some, decide_eq_true_eq]
  by_cases hbig : (l.length : Int) > 1048576
  · exact Ev_if hbig (Ev.now _)
  · refine Ev_ifn hbig ?_
    obtain ⟨a0, a1, a2, a3, a4, a5, a6, a7, a8, a9, a10, a11, co, au, x, y, z, d1, hx, hy, hz⟩ := drawReplyTo_ev l (by omega)
    obtain ⟨n, nm, ty, d2⟩ := drawAskMsg_ev l (by omega)
    obtain ⟨b0, b1, b2, b3, b4, b5, b6, b7, b8, b9, b10, b11, c0, c1, c2, c3, c4, c5, c6, c7, c8, c9, c10, c11, d3, s7, s9, s10, s11⟩ := drawSameMsg_ev l (by omega)
    have es := replyS_eq a0 a1 a2 a3 a4 a5 a6 a7 a8 a9 a10 a11 co au x y z (by omega) (by omega) (by omega)
    have ei := replyI_eq a0 a1 a2 a3 a4 a5 a6 a7 a8 a9 a10 a11 co au x y z (by omega) (by omega) (by omega)
    have m1 := sameMsgG_eq a0 true au false a4 false co a7 a8 x y z a0 true au false a4 false co a7 a8 x y z (by omega) (by omega) (by omega)
    rw [sameM_self] at m1
    have m2 := sameMsgG_eq n false false false false false 0 nm ty [] [] [] n false false false false false 0 nm ty [] [] [] (by simp) (by simp) (by simp)
    rw [sameM_self] at m2
    have k9 := s9.1
    have kA := s10.1
    have kB := s11.1
    have m3 := sameMsgG_eq b0 b1 b2 b3 b4 b5 b6 b7 b8 b9 b10 b11 c0 c1 c2 c3 c4 c5 c6 c7 c8 c9 c10 c11 (by omega) (by omega) (by omega)
    have i3 := impl_SameMsg_eq b0 b1 b2 b3 b4 b5 b6 b7 b8 b9 b10 b11 c0 c1 c2 c3 c4 c5 c6 c7 c8 c9 c10 c11 (by omega) (by omega) (by omega)
    have f9 := smallL_fit s9
    have f10 := smallL_fit s10
    have f11 := smallL_fit s11
    have o1 := impl_MsgOk_eq b0 b1 b2 b3 b4 b5 b6 b7 b8 b9 b10 b11 (by omega) f9 f10 f11
    have o2 := spec_MsgOk_eq b0 b1 b2 b3 b4 b5 b6 b7 b8 b9 b10 b11 (by omega) f9 f10 f11
    obtain ⟨t, t1, t2⟩ := msgText_both b0 b1 b2 b3 b4 b5 b6 b7 b8 b9 b10 b11 (by omega) f9 f10 f11
    have k1 := impl_CountsOf_eq b0 b1 b2 b3 b4 b5 b6 b7 b8 b9 b10 b11
    have k2 := spec_CountsOf_eq b0 b1 b2 b3 b4 b5 b6 b7 b8 b9 b10 b11
    have k3 := impl_CountsOf_eq a0 true au false a4 false co a7 a8 x y z
    have k4 := impl_CountsOf_eq n false false false false false 0 nm ty [] [] []
    have qs : Ev (fun _ => impl_AskMsg.f n nm ty) (n, false, false, false, false, false, 0, nm, ty, [], [], []) := ⟨0, fun _ _ => rfl⟩
    have qt : Ev (fun _ => spec_AskMsg.f n nm ty) (n, false, false, false, false, false, 0, nm, ty, [], [], []) := ⟨0, fun _ _ => rfl⟩
    refine Ev.bind d1 (Ev.bind (Ev_c ei) (Ev.bind d2 (Ev.bind qs (Ev.bind d3 (Ev.bind (Ev_c es) (Ev.bind m1 (Ev_if rfl (Ev.bind qt (Ev.bind m2 (Ev_if rfl (Ev.bind i3 (Ev.bind m3 (Ev_ifn (by simp) (Ev.bind o1 (Ev.bind o2 (Ev_ifn (by simp) (Ev.bind t2 (Ev.bind t1 (Ev_if rfl (Ev.bind k1 (Ev.bind k2 (Ev_if rfl ?_))))))))))))))))))))))
    refine Ev_if rfl (Ev_if rfl (Ev_if (by simp) (Ev_if (by simp) (Ev.bind k3 (Ev_if rfl (Ev_ifn (by simp) (Ev_if (by simp) (Ev.bind k4 ?_))))))))
    rw [cntM_nil]
    exact Ev_some _

end Go.Proofs.YtdigilidomimdaaDoor.Pure
