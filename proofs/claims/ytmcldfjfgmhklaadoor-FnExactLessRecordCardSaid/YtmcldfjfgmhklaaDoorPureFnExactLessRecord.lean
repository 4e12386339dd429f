/- For all two records the program's LessRecord returns what the reference's returns. No condition. -/
import Derived.Test.YtmcldfjfgmhklaaDoorY
import Derived.Test.YtmcldfjfgmhklaaDoorLev
import Derived.Test.YtmcldfjfgmhklaaDoorLlessrec2
import Derived.Test.YtmcldfjfgmhklaaDoorLrec
import Derived.Test.YtmcldfjfgmhklaaDoorPrx0
import Derived.Test.YtmcldfjfgmhklaaDoorPrx14
import Derived.Test.YtmcldfjfgmhklaaDoorPrx4
namespace Go.Proofs.YtmcldfjfgmhklaaDoor.Pure
open Go.RowKit Go.Proofs.YtmcldfjfgmhklaaDoor.Pr Go.Proofs.YtmcldfjfgmhklaaDoor.X Go.Proofs.YtmcldfjfgmhklaaDoor.Y Go.Proofs.YtmcldfjfgmhklaaDoor.Lem Go.Proofs.YtmcldfjfgmhklaaDoorW.PrintWords Go.Proofs.YtmcldfjfgmhklaaDoorW.PrintLast Go.Proofs.YtmcldfjfgmhklaaDoorW.PrintMore
set_option linter.unusedVariables false
set_option linter.unusedSimpArgs false
theorem FnExactLessRecord : laws_FnExactLessRecord.Pure := by
  intro a0 a1 a2 a3 a4 a5 b0 b1 b2 b3 b4 b5 hg hg2
  refine Ev.rounds ?_ (r := true)
  unfold laws_FnExactLessRecord.f laws_toRecord.f
  obtain ⟨r, hr, r0, r1, r2⟩ := szRecord_eq ⟨a0, a1, a2, a3, a4, a5⟩ (g_okR hg) 1048576 (by omega)
  have hr' : laws_szRecord.f a0 a1 a2 a3 a4 a5 1048576 = some r := hr
  obtain ⟨q, hq, q0, q1, q2⟩ := szRecord_eq ⟨b0, b1, b2, b3, b4, b5⟩ (g_okR hg2) r (by omega)
  have hq' : laws_szRecord.f b0 b1 b2 b3 b4 b5 r = some q := hq
  rw [hr']
  simp only [Option.bind_some]
  rw [hq']
  simp only [Option.bind_some]
  by_cases c : r < 0
  · exact Ev_if c (Ev.now _)
  · refine Ev_ifn c ?_
    by_cases c2 : q < 0
    · exact Ev_if c2 (Ev.now _)
    · have e := r2 (by omega)
      have e2 := q2 (by omega)
      simp only [szR] at e e2
      exact Ev_ifn c2 (Ev.bind (spec_LessRecord_eq a0 a1 a2 a3 a4 a5 b0 b1 b2 b3 b4 b5 (by omega) (by omega) (by omega) (by omega) (by omega) (by omega)) (Ev.bind (impl_LessRecord_eq a0 a1 a2 a3 a4 a5 b0 b1 b2 b3 b4 b5 (by omega) (by omega) (by omega) (by omega) (by omega) (by omega)) (Ev_ifn (by simp) (Ev.now _))))

end Go.Proofs.YtmcldfjfgmhklaaDoor.Pure
