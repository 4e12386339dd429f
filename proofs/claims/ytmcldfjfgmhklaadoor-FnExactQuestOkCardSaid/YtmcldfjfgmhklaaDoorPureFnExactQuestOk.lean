/- For all questions the program's QuestOk returns what the reference's returns. No condition. -/
import Derived.Test.YtmcldfjfgmhklaaDoorY
import Derived.Test.YtmcldfjfgmhklaaDoorLev
import Derived.Test.YtmcldfjfgmhklaaDoorLname
import Derived.Test.YtmcldfjfgmhklaaDoorLrecok
import Derived.Test.YtmcldfjfgmhklaaDoorLtypeok
import Derived.Test.YtmcldfjfgmhklaaDoorPrx0
import Derived.Test.YtmcldfjfgmhklaaDoorPrx11
namespace Go.Proofs.YtmcldfjfgmhklaaDoor.Pure
open Go.RowKit Go.Proofs.YtmcldfjfgmhklaaDoor.Pr Go.Proofs.YtmcldfjfgmhklaaDoor.X Go.Proofs.YtmcldfjfgmhklaaDoor.Y Go.Proofs.YtmcldfjfgmhklaaDoor.Lem Go.Proofs.YtmcldfjfgmhklaaDoorW.PrintWords Go.Proofs.YtmcldfjfgmhklaaDoorW.PrintLast Go.Proofs.YtmcldfjfgmhklaaDoorW.PrintMore
set_option linter.unusedVariables false
set_option linter.unusedSimpArgs false
theorem FnExactQuestOk : laws_FnExactQuestOk.Pure := by
  intro a0 a1 hg
  have h0 : a0.size ≤ 140737488351232 := hg.1
  refine Ev.rounds ?_ (r := true)
  unfold laws_FnExactQuestOk.f laws_szQuest.f laws_toQuest.f
  have w : wrap64 ((1048576 : Int) - (a0.size : Int)) = 1048576 - (a0.size : Int) := wrap_id (by omega) (by omega)
  rw [w]
  by_cases c : (1048576 : Int) - (a0.size : Int) < 0
  · rw [if_pos c]
    simp only [Option.bind_some]
    exact Ev_if (by decide) (Ev.now _)
  · rw [if_neg c]
    simp only [Option.bind_some]
    refine Ev_ifn c (Ev.bind (a := nameOk a0 && typeOk a1) ?_ (Ev.bind (a := nameOk a0 && typeOk a1) ?_ (Ev_ifn (by simp) (Ev.now _))))
    · show Ev (fun k => spec_QuestOk.f k a0 a1) _
      unfold spec_QuestOk.f
      rw [spec_TypeOk_eq a1]
      exact Ev_and (spec_NameOk_eq a0 (by omega)) fun _ => Ev_some _
    · show Ev (fun k => impl_QuestOk.f k a0 a1) _
      unfold impl_QuestOk.f
      rw [impl_TypeOk_eq a1]
      exact Ev_and (impl_NameOk_eq a0 (by omega)) fun _ => Ev_some _

end Go.Proofs.YtmcldfjfgmhklaaDoor.Pure
