/- For all records the program's RecordOk returns what the reference's returns. No condition. -/
import Derived.Test.YtmcldfjfgmhklaaDoorY
import Derived.Test.YtmcldfjfgmhklaaDoorLev
import Derived.Test.YtmcldfjfgmhklaaDoorLrec
import Derived.Test.YtmcldfjfgmhklaaDoorLrecok
import Derived.Test.YtmcldfjfgmhklaaDoorPrx0
import Derived.Test.YtmcldfjfgmhklaaDoorPrx12
import Derived.Test.YtmcldfjfgmhklaaDoorPrx4
namespace Go.Proofs.YtmcldfjfgmhklaaDoor.Pure
open Go.RowKit Go.Proofs.YtmcldfjfgmhklaaDoor.Pr Go.Proofs.YtmcldfjfgmhklaaDoor.X Go.Proofs.YtmcldfjfgmhklaaDoor.Y Go.Proofs.YtmcldfjfgmhklaaDoor.Lem Go.Proofs.YtmcldfjfgmhklaaDoorW.PrintWords Go.Proofs.YtmcldfjfgmhklaaDoorW.PrintLast Go.Proofs.YtmcldfjfgmhklaaDoorW.PrintMore
set_option linter.unusedVariables false
set_option linter.unusedSimpArgs false
theorem FnExactRecordOk : laws_FnExactRecordOk.Pure := by
  intro a0 a1 a2 a3 a4 a5 hg
  refine Ev.rounds ?_ (r := true)
  unfold laws_FnExactRecordOk.f laws_toRecord.f
  obtain ⟨r, hr, r0, r1, r2⟩ := szRecord_eq ⟨a0, a1, a2, a3, a4, a5⟩ (g_okR hg) 1048576 (by omega)
  have hr' : laws_szRecord.f a0 a1 a2 a3 a4 a5 1048576 = some r := hr
  rw [hr']
  simp only [Option.bind_some]
  by_cases c : r < 0
  · exact Ev_if c (Ev.now _)
  · have e := r2 (by omega)
    simp only [szR] at e
    exact Ev_ifn c (Ev.bind (spec_RecordOk_eq a0 a1 a2 a3 a4 a5 (by omega) (by omega) (by omega)) (Ev.bind (impl_RecordOk_eq a0 a1 a2 a3 a4 a5 (by omega) (by omega) (by omega)) (Ev_ifn (by simp) (Ev.now _))))

end Go.Proofs.YtmcldfjfgmhklaaDoor.Pure
