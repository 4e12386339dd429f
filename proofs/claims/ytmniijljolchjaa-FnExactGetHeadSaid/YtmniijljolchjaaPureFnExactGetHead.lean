/- For all byte slices the program's GetHead returns what the reference's returns, in memory of its own. No condition. -/
import Derived.Test.YtmniijljolchjaaY
import Derived.Test.YtmniijljolchjaaLPtbytes
import Derived.Test.YtmniijljolchjaaLPtev
import Derived.Test.YtmniijljolchjaaLPtghead
import Derived.Test.YtmniijljolchjaaLPtmark
import Derived.Test.YtmniijljolchjaaLPtmsg
import Derived.Test.YtmniijljolchjaaLPtmsg2
import Derived.Test.YtmniijljolchjaaPtx0
import Derived.Test.YtmniijljolchjaaPtx2
import Derived.Test.YtmniijljolchjaaPtx3
import Derived.Test.YtmniijljolchjaaPtx5
import Derived.Test.YtmniijljolchjaaPtx7
namespace Go.Proofs.Ytmniijljolchjaa.Pure
open Go.RowKit Go.Proofs.Ytmniijljolchjaa.Pt Go.Proofs.Ytmniijljolchjaa.X Go.Proofs.Ytmniijljolchjaa.Y Go.Proofs.Ytmniijljolchjaa.Lem Go.Proofs.YtmniijljolchjaaW.PrintWords Go.Proofs.YtmniijljolchjaaW.PrintLast Go.Proofs.YtmniijljolchjaaW.PrintMore
set_option linter.unusedVariables false
set_option linter.unusedSimpArgs false
theorem FnExactGetHead : laws_FnExactGetHead.Pure := by
  intro l h
  obtain ⟨_, hn, hw⟩ := h
  have hb := wf_bytes hw
  have hn' : l.length ≤ 140737488351232 := by omega
  refine Ev.rounds ?_ (r := true)
  unfold laws_FnExactGetHead.f
  by_cases hbig : (l.length : Int) > 1048576
  · exact Ev_if hbig (Ev.now _)
  · refine Ev_ifn hbig ?_
    obtain ⟨e9, e10, e11⟩ := headOf_lists l
    have hM : l.length ≤ 140737488355328 := by omega
    refine Ev.bind (toByteS_eq l hn') ?_
    refine Ev.bind (spec_GetHead_eq l hn' hb) ?_
    refine Ev.bind (toByteS_eq l hn') ?_
    refine Ev.bind (impl_GetHead_eq l hn' hb) ?_
    revert e9 e10 e11
    rcases hx : headOf l with ⟨x0, x1, x2, x3, x4, x5, x6, x7, x8, x9, x10, x11, x12, x13, x14, x15⟩
    intro e9 e10 e11
    simp only at e9 e10 e11
    subst e9 e10 e11
    have heq : Ev (fun k => laws_eqMsg.f k x0 x1 x2 x3 x4 x5 x6 x7 x8 [] [] [] x0 x1 x2 x3 x4 x5 x6 x7 x8 [] [] []) true := eqMsg_same _ _ _ _ _ _ _ _ _ _ _ _ (by simp) (by simp) (by simp)
    have hm : Ev (fun k => laws_markMsg.f k x0 x1 x2 x3 x4 x5 x6 x7 x8 [] [] [] 1) _ := markMsg_eq _ _ _ _ _ _ _ _ _ [] [] [] (by simp) (by simp) (by simp)
    have hh : Ev (fun k => laws_heldMsg.f k x0 x1 x2 x3 x4 x5 x6 x7 x8 _ _ _ 1) _ := heldMsg_eq x0 x1 x2 x3 x4 x5 x6 x7 x8 0 0 0 (by omega) (by omega) (by omega)
    have p : ¬ (1 + 6 * ((0 : Nat) : Int) + 6 * ((0 : Nat) : Int) + 6 * ((0 : Nat) : Int)) < 0 := by omega
    have q : ¬ (1 + (l.length : Int)) < 0 := by omega
    have t : ¬ ((x15 != x15) = true) := by simp
    refine Ev.bind heq (Ev_if rfl (Ev_if rfl (Ev_if rfl (Ev_if rfl (Ev_ifn t ?_)))))
    refine Ev.bind (toByteS_eq l hn') (Ev.bind (eqByteS_same l hn') (Ev_if rfl ?_))
    refine Ev.bind (markByteS_eq l hM) (Ev_ifn q ?_)
    refine Ev.bind heq (Ev_if rfl (Ev.bind hm ?_))
    refine Ev.bind hh (Ev_ifn p (Ev_if rfl ?_))
    refine Ev.bind (toByteS_eq l hn') (Ev.bind (impl_GetHead_eq l hn' hb) ?_)
    rw [hx]
    refine Ev.bind heq (Ev_if rfl (Ev_if rfl (Ev_if rfl (Ev_if rfl (Ev_ifn t ?_)))))
    exact Ev.bind hh (Ev_ifn p (Ev_if rfl (Ev.now _)))

end Go.Proofs.Ytmniijljolchjaa.Pure
