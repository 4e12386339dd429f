/- For all byte slices and strings the program's PutName returns what the reference's returns, in memory of its own, and leaves its argument alone. No condition. -/
import Derived.Test.YtfmnofjijodgcaaDoorY
import Derived.Test.YtfmnofjijodgcaaDoorLMExactPutName1
import Derived.Test.YtfmnofjijodgcaaDoorPrx0
import Derived.Test.YtfmnofjijodgcaaDoorPrx31
namespace Go.Proofs.YtfmnofjijodgcaaDoor.Pure
open Go.RowKit Go.Proofs.YtfmnofjijodgcaaDoor.Pr Go.Proofs.YtfmnofjijodgcaaDoor.X Go.Proofs.YtfmnofjijodgcaaDoor.Y Go.Proofs.YtfmnofjijodgcaaDoor.Lem Go.Proofs.YtfmnofjijodgcaaDoorW.PrintWords Go.Proofs.YtfmnofjijodgcaaDoorW.PrintLast Go.Proofs.YtfmnofjijodgcaaDoorW.PrintMore
set_option linter.unusedVariables false
set_option linter.unusedSimpArgs false
theorem FnExactPutName : laws_FnExactPutName.Pure := by
  intro l s hl0 hs0
  obtain ⟨_, hn, hw⟩ := hl0
  refine Ev.rounds ?_ (r := true)
  unfold laws_FnExactPutName.f
  by_cases hbig : (l.length : Int) > 1048576
  · exact Ev_if hbig (Ev.now _)
  · refine Ev_ifn hbig ?_
    by_cases hbig2 : (s.size : Int) > 1048576
    · exact Ev_if hbig2 (Ev.now _)
    · refine Ev_ifn hbig2 ?_
      obtain ⟨pl, hpl⟩ := places_exist l (by omega) (wf_bytes hw)
      have hle := putName_le pl l s
      have ht := toByteS_eq l (by omega)
      have hi := impl_PutName_eq l (by omega) pl hpl s (by omega)
      have ee := eqByteS_same (putName pl l s) (by omega)
      have el := eqByteS_same l (by omega)
      have n1 : ¬ (1 + (l.length : Int)) < 0 := by omega
      have n2 : ¬ (1 + ((putName pl l s).length : Int)) < 0 := by omega
      have hh := heldByteS_eq (putName pl l s).length (by omega)
      refine Ev.bind ht (Ev.bind (spec_PutName_eq l (by omega) pl hpl s (by omega)) (Ev.bind ht (Ev.bind hi (Ev.bind ee (Ev_if rfl (Ev.bind ht (Ev.bind el (Ev_if rfl ?_))))))))
      refine Ev.bind (markByteS_eq l (by omega)) (Ev_ifn n1 (Ev.bind ee (Ev_if rfl (Ev.bind (markByteS_eq (putName pl l s) (by omega)) (Ev.bind hh (Ev_ifn n2 (Ev_if rfl ?_)))))))
      exact Ev.bind ht (Ev.bind hi (Ev.bind ee (Ev_if rfl (Ev.bind hh (Ev_ifn n2 (Ev_if rfl (Ev.now _)))))))

end Go.Proofs.YtfmnofjijodgcaaDoor.Pure
