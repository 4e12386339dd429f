/- For all byte slices and lists of records the program's PutRecords returns what the reference's returns, in memory of its own, and leaves its arguments alone. No condition. -/
import Derived.Test.YtbohkphbgkgaeaaDoorY
import Derived.Test.YtbohkphbgkgaeaaDoorLMExactPutRecords1
import Derived.Test.YtbohkphbgkgaeaaDoorPrx0
import Derived.Test.YtbohkphbgkgaeaaDoorPrx14
namespace Go.Proofs.YtbohkphbgkgaeaaDoor.Pure
open Go.RowKit Go.Proofs.YtbohkphbgkgaeaaDoor.Pr Go.Proofs.YtbohkphbgkgaeaaDoor.X Go.Proofs.YtbohkphbgkgaeaaDoor.Y Go.Proofs.YtbohkphbgkgaeaaDoor.Lem Go.Proofs.YtbohkphbgkgaeaaDoorW.PrintWords Go.Proofs.YtbohkphbgkgaeaaDoorW.PrintLast Go.Proofs.YtbohkphbgkgaeaaDoorW.PrintMore
set_option linter.unusedVariables false
set_option linter.unusedSimpArgs false
theorem FnExactPutRecords : laws_FnExactPutRecords.Pure := by
  intro l x hl hx
  obtain ⟨_, hn, hw⟩ := hl
  obtain ⟨_, hm, hg⟩ := hx
  refine Ev.rounds ?_ (r := true)
  unfold laws_FnExactPutRecords.f
  by_cases hbig : (l.length : Int) > 1048576
  · exact Ev_if hbig (Ev.now _)
  · refine Ev_ifn hbig ?_
    obtain ⟨r, hr, r0, r1, r2⟩ := szRecordS_eq x (by omega) (fun y hy => g_okR (hg y hy)) 1048576 (by omega)
    refine Ev.bind hr ?_
    by_cases c : r < 0
    · exact Ev_if c (Ev.now _)
    · refine Ev_ifn c ?_
      have fx := fitL_of (r2 (by omega)) (by omega) (by omega)
      have fy := fitRs_cv fx
      have tr := toRecordS_eq x fx.1
      have ht := toByteS_eq l (by omega)
      generalize x.map cvR = y at fy tr
      obtain ⟨z, hs, hi, hz, _⟩ := putRecords_total l (by omega) (wf_bytes hw) y fy.2 fy.1
      have yl : y.length ≤ 1048576 := fy.1
      have el := eqByteS_same l (by omega)
      have er := eqRecordS_same y (by omega)
      have ee := eqByteS_same z (by omega)
      have n1 : ¬ (1 + (l.length : Int)) < 0 := by omega
      have n2 : ¬ (1 + (z.length : Int)) < 0 := by omega
      have n3 : ¬ ((1 + (l.length : Int)) + 6 * (y.length : Int)) < 0 := by omega
      have hh := heldByteS_eq z.length (by omega)
      have mr := markRecordS_eq y (by omega) (1 + (l.length : Int)) (by omega)
      refine Ev.bind ht (Ev.bind tr (Ev.bind hs (Ev.bind ht (Ev.bind tr (Ev.bind hi (Ev.bind ee (Ev_if rfl ?_)))))))
      refine Ev.bind ht (Ev.bind el (Ev_if rfl (Ev.bind tr (Ev.bind er (Ev_if rfl ?_)))))
      refine Ev.bind (markByteS_eq l (by omega)) (Ev.bind mr (Ev_ifn n3 (Ev.bind ee (Ev_if rfl (Ev.bind (markByteS_eq z (by omega)) (Ev.bind hh (Ev_ifn n2 (Ev_if rfl ?_))))))))
      exact Ev.bind ht (Ev.bind tr (Ev.bind hi (Ev.bind ee (Ev_if rfl (Ev.bind hh (Ev_ifn n2 (Ev_if rfl (Ev.now _))))))))

end Go.Proofs.YtbohkphbgkgaeaaDoor.Pure
