/- For all byte slices and places the program's GetRecord returns what the reference's returns, and leaves its argument alone. No condition. -/
-- half
import Derived.Test.YtfmnofjijodgcaaDoorY
import Derived.Test.YtfmnofjijodgcaaDoorLMExactGetRecord1
import Derived.Test.YtfmnofjijodgcaaDoorPrx0
import Derived.Test.YtfmnofjijodgcaaDoorPrx14
import Derived.Test.YtfmnofjijodgcaaDoorPrx9
namespace Go.Proofs.YtfmnofjijodgcaaDoor.Pure
open Go.RowKit Go.Proofs.YtfmnofjijodgcaaDoor.Pr Go.Proofs.YtfmnofjijodgcaaDoor.X Go.Proofs.YtfmnofjijodgcaaDoor.Y Go.Proofs.YtfmnofjijodgcaaDoor.Lem Go.Proofs.YtfmnofjijodgcaaDoorW.PrintWords Go.Proofs.YtfmnofjijodgcaaDoorW.PrintLast Go.Proofs.YtfmnofjijodgcaaDoorW.PrintMore
set_option linter.unusedVariables false
set_option linter.unusedSimpArgs false
theorem FnExactGetRecord : laws_FnExactGetRecord.Pure := by
 intro l i hl hi
 obtain ⟨_, hn, hw⟩ := hl
 refine Ev.rounds ?_ (r := true)
 unfold laws_FnExactGetRecord.f
 by_cases hbig : (l.length : Int) > 1048576
 ·exact Ev_if hbig (Ev.now _)
 ·refine Ev_ifn hbig ?_
  have ht := toByteS_eq l (by omega)
  have el := eqByteS_same l (by omega)
  obtain ⟨x, h1, h2, _⟩ := rec_total l (by omega) (wf_bytes hw) i (wf_int hi)
  refine Ev.bind ht (Ev.bind h1 (Ev.bind ht (Ev.bind h2 ?_)))
  have e : laws_eqRecord.f x.1 x.2.1 x.2.2.1 x.2.2.2.1 x.2.2.2.2.1 x.2.2.2.2.2.1 x.1 x.2.1 x.2.2.1 x.2.2.2.1 x.2.2.2.2.1 x.2.2.2.2.2.1 = some true := by simp [laws_eqRecord.f]
  rw [e]
  simp only [Option.bind_some]
  exact Ev_if (by first | trivial | rfl) (Ev_if (by first | trivial | rfl) (Ev_if (by first | trivial | rfl) (Ev.bind ht (Ev.bind el (Ev_if (by first | trivial | rfl) (Ev.now _))))))

end Go.Proofs.YtfmnofjijodgcaaDoor.Pure
