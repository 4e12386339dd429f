/- For all byte slices and places the program's JumpsIn returns what the reference's returns, and leaves its argument alone. No condition. -/
import Derived.Test.YtfmnofjijodgcaaDoorY
import Derived.Test.YtfmnofjijodgcaaDoorLMExactJumpsIn1
import Derived.Test.YtfmnofjijodgcaaDoorPrx0
import Derived.Test.YtfmnofjijodgcaaDoorPrx22
namespace Go.Proofs.YtfmnofjijodgcaaDoor.Pure
open Go.RowKit Go.Proofs.YtfmnofjijodgcaaDoor.Pr Go.Proofs.YtfmnofjijodgcaaDoor.X Go.Proofs.YtfmnofjijodgcaaDoor.Y Go.Proofs.YtfmnofjijodgcaaDoor.Lem Go.Proofs.YtfmnofjijodgcaaDoorW.PrintWords Go.Proofs.YtfmnofjijodgcaaDoorW.PrintLast Go.Proofs.YtfmnofjijodgcaaDoorW.PrintMore
set_option linter.unusedVariables false
set_option linter.unusedSimpArgs false
theorem FnExactJumpsIn : laws_FnExactJumpsIn.Pure := by
  intro l i hl hi
  obtain ⟨_, hn, hw⟩ := hl
  refine Ev.rounds ?_ (r := true)
  unfold laws_FnExactJumpsIn.f
  by_cases hbig : (l.length : Int) > 1048576
  · exact Ev_if hbig (Ev.now _)
  · refine Ev_ifn hbig ?_
    have ht := toByteS_eq l (by omega)
    have el := eqByteS_same l (by omega)
    obtain ⟨r, _, _, h1, h2, _⟩ := name_total l (by omega) (wf_bytes hw) i (wf_int hi)
    exact Ev.bind ht (Ev.bind h1 (Ev.bind ht (Ev.bind h2 (Ev_if rfl (Ev.bind ht (Ev.bind el (Ev_if rfl (Ev.now _))))))))

end Go.Proofs.YtfmnofjijodgcaaDoor.Pure
