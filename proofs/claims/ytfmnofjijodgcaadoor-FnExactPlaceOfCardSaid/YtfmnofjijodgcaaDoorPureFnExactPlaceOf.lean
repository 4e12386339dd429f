/- For all byte slices and names the program's PlaceOf returns what the reference's returns, and leaves its argument alone. No condition. -/
import Derived.Test.YtfmnofjijodgcaaDoorY
import Derived.Test.YtfmnofjijodgcaaDoorLMExactPlaceOf1
import Derived.Test.YtfmnofjijodgcaaDoorPrx0
import Derived.Test.YtfmnofjijodgcaaDoorPrx27
namespace Go.Proofs.YtfmnofjijodgcaaDoor.Pure
open Go.RowKit Go.Proofs.YtfmnofjijodgcaaDoor.Pr Go.Proofs.YtfmnofjijodgcaaDoor.X Go.Proofs.YtfmnofjijodgcaaDoor.Y Go.Proofs.YtfmnofjijodgcaaDoor.Lem Go.Proofs.YtfmnofjijodgcaaDoorW.PrintWords Go.Proofs.YtfmnofjijodgcaaDoorW.PrintLast Go.Proofs.YtfmnofjijodgcaaDoorW.PrintMore
set_option linter.unusedVariables false
set_option linter.unusedSimpArgs false
theorem FnExactPlaceOf : laws_FnExactPlaceOf.Pure := by
  intro l s hl hs
  obtain ⟨_, hn, hw⟩ := hl
  refine Ev.rounds ?_ (r := true)
  unfold laws_FnExactPlaceOf.f
  by_cases hbig : (l.length : Int) > 1048576
  · exact Ev_if hbig (Ev.now _)
  · refine Ev_ifn hbig ?_
    by_cases hbig2 : (s.size : Int) > 1048576
    · exact Ev_if hbig2 (Ev.now _)
    · refine Ev_ifn hbig2 ?_
      have ht := toByteS_eq l (by omega)
      have el := eqByteS_same l (by omega)
      obtain ⟨p, h1, h2, _⟩ := place_total l (by omega) (wf_bytes hw) s
      exact Ev.bind ht (Ev.bind h1 (Ev.bind ht (Ev.bind h2 (Ev_if rfl (Ev.bind ht (Ev.bind el (Ev_if rfl (Ev.now _))))))))

end Go.Proofs.YtfmnofjijodgcaaDoor.Pure
