/- For all byte slices, places, lengths and types the program's GetData returns what the reference's returns, and leaves its argument alone. No condition. -/
-- half
import Derived.Test.YtfmnofjijodgcaaDoorY
import Derived.Test.YtfmnofjijodgcaaDoorLMExactGetData1
import Derived.Test.YtfmnofjijodgcaaDoorPrx0
import Derived.Test.YtfmnofjijodgcaaDoorPrx14
import Derived.Test.YtfmnofjijodgcaaDoorPrx9
namespace Go.Proofs.YtfmnofjijodgcaaDoor.Pure
open Go.RowKit Go.Proofs.YtfmnofjijodgcaaDoor.Pr Go.Proofs.YtfmnofjijodgcaaDoor.X Go.Proofs.YtfmnofjijodgcaaDoor.Y Go.Proofs.YtfmnofjijodgcaaDoor.Lem Go.Proofs.YtfmnofjijodgcaaDoorW.PrintWords Go.Proofs.YtfmnofjijodgcaaDoorW.PrintLast Go.Proofs.YtfmnofjijodgcaaDoorW.PrintMore
set_option linter.unusedVariables false
set_option linter.unusedSimpArgs false
theorem FnExactGetData : laws_FnExactGetData.Pure := by
 intro l i n ty hl hi _ _
 obtain ⟨_, hn, hw⟩ := hl
 refine Ev.rounds ?_ (r := true)
 unfold laws_FnExactGetData.f
 by_cases hbig : (l.length : Int) > 1048576
 ·exact Ev_if hbig (Ev.now _)
 ·refine Ev_ifn hbig ?_
  have ht := toByteS_eq l (by omega)
  have el := eqByteS_same l (by omega)
  have hb := wf_bytes hw
  obtain ⟨r, h1, h2, h3⟩ := name_get l (by omega) hb i (wf_int hi)
  refine Ev.bind ht (Ev.bind (spec_GetData_eq l (by omega) hb i n ty r h1 h3) (Ev.bind ht (Ev.bind (impl_GetData_eq l (by omega) hb i n ty r h2 h3) ?_)))
  generalize dataOf r l i n ty = x
  have e : laws_eqRecord.f x.1 x.2.1 x.2.2.1 x.2.2.2.1 x.2.2.2.2.1 x.2.2.2.2.2.1 x.1 x.2.1 x.2.2.1 x.2.2.2.1 x.2.2.2.2.1 x.2.2.2.2.2.1 = some true := by simp [laws_eqRecord.f]
  rw [e]
  simp only [Option.bind_some]
  exact Ev_if (by first | trivial | rfl) (Ev_if (by first | trivial | rfl) (Ev.bind ht (Ev.bind el (Ev_if (by first | trivial | rfl) (Ev.now _)))))

end Go.Proofs.YtfmnofjijodgcaaDoor.Pure
