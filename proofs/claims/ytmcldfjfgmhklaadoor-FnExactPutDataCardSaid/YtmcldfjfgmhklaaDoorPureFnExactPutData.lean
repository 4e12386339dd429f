/- For all records the program's PutData returns what the reference's returns, in memory of its own. No condition. -/
import Derived.Test.YtmcldfjfgmhklaaDoorY
import Derived.Test.YtmcldfjfgmhklaaDoorLM1
import Derived.Test.YtmcldfjfgmhklaaDoorPrx0
import Derived.Test.YtmcldfjfgmhklaaDoorPrx19
import Derived.Test.YtmcldfjfgmhklaaDoorPrx4
namespace Go.Proofs.YtmcldfjfgmhklaaDoor.Pure
open Go.RowKit Go.Proofs.YtmcldfjfgmhklaaDoor.Pr Go.Proofs.YtmcldfjfgmhklaaDoor.X Go.Proofs.YtmcldfjfgmhklaaDoor.Y Go.Proofs.YtmcldfjfgmhklaaDoor.Lem Go.Proofs.YtmcldfjfgmhklaaDoorW.PrintWords Go.Proofs.YtmcldfjfgmhklaaDoorW.PrintLast Go.Proofs.YtmcldfjfgmhklaaDoorW.PrintMore
set_option linter.unusedVariables false
set_option linter.unusedSimpArgs false
theorem FnExactPutData : laws_FnExactPutData.Pure := by
  intro a0 a1 a2 a3 a4 a5 hg
  refine Ev.rounds ?_ (r := true)
  unfold laws_FnExactPutData.f laws_toRecord.f
  obtain ⟨r, hr, r0, r1, r2⟩ := szRecord_eq ⟨a0, a1, a2, a3, a4, a5⟩ (g_okR hg) 1048576 (by omega)
  have hr' : laws_szRecord.f a0 a1 a2 a3 a4 a5 1048576 = some r := hr
  rw [hr']
  simp only [Option.bind_some]
  by_cases c : r < 0
  · exact Ev_if c (Ev.now _)
  · have e := r2 (by omega)
    simp only [szR] at e
    have hle := putData_le a0 a1 a2 a3 a4 a5
    have hi := impl_PutData_eq a0 a1 a2 a3 a4 a5 (by omega) (by omega) (by omega)
    have hs := spec_PutData_eq a0 a1 a2 a3 a4 a5 (by omega) (by omega) (by omega)
    refine Ev_ifn c (Ev.bind hs (Ev.bind hi ?_))
    generalize putData a0 a1 a2 a3 a4 a5 = x at hle hi
    have ee := eqByteS_same x (by omega)
    have n2 : ¬ (1 + (x.length : Int)) < 0 := by omega
    have hh := heldByteS_eq x.length (by omega)
    exact Ev.bind ee (Ev_if rfl (Ev.bind (markByteS_eq x (by omega)) (Ev.bind hh (Ev_ifn n2 (Ev_if rfl (Ev.bind hi (Ev.bind ee (Ev_if rfl (Ev.bind hh (Ev_ifn n2 (Ev_if rfl (Ev.now _))))))))))))

end Go.Proofs.YtmcldfjfgmhklaaDoor.Pure
