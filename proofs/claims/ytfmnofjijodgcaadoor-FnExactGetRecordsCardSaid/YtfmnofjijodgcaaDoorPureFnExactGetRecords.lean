/- For all byte slices, places and counts the program's GetRecords returns what the reference's returns, in memory of its own, and leaves its argument alone. No condition. -/
-- half
import Derived.Test.YtfmnofjijodgcaaDoorY
import Derived.Test.YtfmnofjijodgcaaDoorLMExactGetRecords1
import Derived.Test.YtfmnofjijodgcaaDoorPrx0
import Derived.Test.YtfmnofjijodgcaaDoorPrx17
namespace Go.Proofs.YtfmnofjijodgcaaDoor.Pure
open Go.RowKit Go.Proofs.YtfmnofjijodgcaaDoor.Pr Go.Proofs.YtfmnofjijodgcaaDoor.X Go.Proofs.YtfmnofjijodgcaaDoor.Y Go.Proofs.YtfmnofjijodgcaaDoor.Lem Go.Proofs.YtfmnofjijodgcaaDoorW.PrintWords Go.Proofs.YtfmnofjijodgcaaDoorW.PrintLast Go.Proofs.YtfmnofjijodgcaaDoorW.PrintMore
set_option linter.unusedVariables false
set_option linter.unusedSimpArgs false
theorem FnExactGetRecords : laws_FnExactGetRecords.Pure := by
 intro l i m hl hi _
 obtain ⟨_, hn, hw⟩ := hl
 refine Ev.rounds ?_ (r := true)
 unfold laws_FnExactGetRecords.f
 by_cases hbig : (l.length : Int) > 1048576
 ·exact Ev_if hbig (Ev.now _)
 ·refine Ev_ifn hbig ?_
  have ht := toByteS_eq l (by omega)
  have el := eqByteS_same l (by omega)
  obtain ⟨r, h1, h2, h3, _⟩ := recs_total l (by omega) (wf_bytes hw) i m (wf_int hi)
  have ee := eqRecordS_same r.1 (by omega)
  have n1 : ¬ (1 + (l.length : Int)) < 0 := by omega
  have n2 : ¬ (1 + 6 * (r.1.length : Int)) < 0 := by omega
  have hh := heldRecordS_eq r.1.length (by omega) 1 (by omega)
  refine Ev.bind ht (Ev.bind h1 (Ev.bind ht (Ev.bind h2 (Ev.bind ee (Ev_if (by first | trivial | rfl) (Ev_if (by first | trivial | rfl) (Ev_if (by first | trivial | rfl) (Ev.bind ht (Ev.bind el (Ev_if (by first | trivial | rfl) ?_))))))))))
  refine Ev.bind (markByteS_eq l (by omega)) (Ev_ifn n1 (Ev.bind ee (Ev_if (by first | trivial | rfl) (Ev.bind (markRecordS_eq r.1 (by omega) 1 (by omega)) (Ev.bind hh (Ev_ifn n2 (Ev_if (by first | trivial | rfl) ?_)))))))
  exact Ev.bind ht (Ev.bind h2 (Ev.bind ee (Ev_if (by first | trivial | rfl) (Ev_if (by first | trivial | rfl) (Ev_if (by first | trivial | rfl) (Ev.bind hh (Ev_ifn n2 (Ev_if (by first | trivial | rfl) (Ev.now _)))))))))

end Go.Proofs.YtfmnofjijodgcaaDoor.Pure
