/- For all lists of records the program's SortRecords returns what the reference's returns, in memory of its own, and leaves its argument alone. No condition. -/
import Derived.Test.YtfmnofjijodgcaaDoorY
import Derived.Test.YtfmnofjijodgcaaDoorLMExactSortRecords1
import Derived.Test.YtfmnofjijodgcaaDoorPrx0
import Derived.Test.YtfmnofjijodgcaaDoorPrx11
namespace Go.Proofs.YtfmnofjijodgcaaDoor.Pure
open Go.RowKit Go.Proofs.YtfmnofjijodgcaaDoor.Pr Go.Proofs.YtfmnofjijodgcaaDoor.X Go.Proofs.YtfmnofjijodgcaaDoor.Y Go.Proofs.YtfmnofjijodgcaaDoor.Lem Go.Proofs.YtfmnofjijodgcaaDoorW.PrintWords Go.Proofs.YtfmnofjijodgcaaDoorW.PrintLast Go.Proofs.YtfmnofjijodgcaaDoorW.PrintMore
set_option linter.unusedVariables false
set_option linter.unusedSimpArgs false
theorem FnExactSortRecords : laws_FnExactSortRecords.Pure := by
  intro x hx
  obtain ⟨_, hm, hg⟩ := hx
  refine Ev.rounds ?_ (r := true)
  unfold laws_FnExactSortRecords.f
  obtain ⟨r, hr, r0, r1, r2⟩ := szRecordS_eq x (by omega) (fun y hy => g_okR (hg y hy)) 1048576 (by omega)
  refine Ev.bind hr ?_
  by_cases c : r < 0
  · exact Ev_if c (Ev.now _)
  · refine Ev_ifn c ?_
    have fx := fitL_of (r2 (by omega)) (by omega) (by omega)
    have fy := fitRs_cv fx
    have tr := toRecordS_eq x fx.1
    generalize x.map cvR = y at fy tr
    have yl : y.length ≤ 1048576 := fy.1
    obtain ⟨z, hs, hi, _, hz⟩ := SortRecords_eq y fy.1 fy.2
    have zl := hz.length_eq
    have er := eqRecordS_same y (by omega)
    have ee := eqRecordS_same z (by omega)
    have n2 : ¬ (1 + 6 * (z.length : Int)) < 0 := by omega
    have n3 : ¬ (1 + 6 * (y.length : Int)) < 0 := by omega
    have hh := heldRecordS_eq z.length (by omega) 1 (by omega)
    have mr := markRecordS_eq y (by omega) 1 (by omega)
    have mz := markRecordS_eq z (by omega) 1 (by omega)
    refine Ev.bind tr (Ev.bind hs (Ev.bind tr (Ev.bind hi (Ev.bind ee (Ev_if rfl (Ev.bind tr (Ev.bind er (Ev_if rfl ?_))))))))
    refine Ev.bind mr (Ev_ifn n3 (Ev.bind ee (Ev_if rfl (Ev.bind mz (Ev.bind hh (Ev_ifn n2 (Ev_if rfl ?_)))))))
    exact Ev.bind tr (Ev.bind hi (Ev.bind ee (Ev_if rfl (Ev.bind hh (Ev_ifn n2 (Ev_if rfl (Ev.now _)))))))

end Go.Proofs.YtfmnofjijodgcaaDoor.Pure
