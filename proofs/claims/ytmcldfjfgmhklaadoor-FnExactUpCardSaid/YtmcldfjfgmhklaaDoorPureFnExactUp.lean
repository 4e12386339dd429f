/- For all strings the program's Up returns what the reference's returns. No condition. -/
import Derived.Test.YtmcldfjfgmhklaaDoorY
import Derived.Test.YtmcldfjfgmhklaaDoorLev
import Derived.Test.YtmcldfjfgmhklaaDoorLjoins
import Derived.Test.YtmcldfjfgmhklaaDoorLlabels
import Derived.Test.YtmcldfjfgmhklaaDoorLup
import Derived.Test.YtmcldfjfgmhklaaDoorPrx0
import Derived.Test.YtmcldfjfgmhklaaDoorPrx15
namespace Go.Proofs.YtmcldfjfgmhklaaDoor.Pure
open Go.RowKit Go.Proofs.YtmcldfjfgmhklaaDoor.Pr Go.Proofs.YtmcldfjfgmhklaaDoor.X Go.Proofs.YtmcldfjfgmhklaaDoor.Y Go.Proofs.YtmcldfjfgmhklaaDoor.Lem Go.Proofs.YtmcldfjfgmhklaaDoorW.PrintWords Go.Proofs.YtmcldfjfgmhklaaDoorW.PrintLast Go.Proofs.YtmcldfjfgmhklaaDoorW.PrintMore
set_option linter.unusedVariables false
set_option linter.unusedSimpArgs false
theorem FnExactUp : laws_FnExactUp.Pure := by
  intro s hs
  refine Ev.rounds ?_ (r := true)
  unfold laws_FnExactUp.f
  by_cases hbig : (s.size : Int) > 1048576
  · exact Ev_if hbig (Ev.now _)
  · refine Ev_ifn hbig ?_
    have hl := labelsL_length s
    have hz := labelsL_size s
    unfold spec_Up.f impl_Up.f
    rw [impl_Labels_eq s (by omega)]
    simp only [Option.bind_some]
    refine Ev.bind (a := joinS ((labelsL s).drop 1)) (Ev.bind (spec_Labels_eq s (by omega)) ?_) ?_
    · generalize labelsL s = x at hl hz ⊢
      by_cases c : (x.length : Int) = 0
      · have e : x = [] := List.eq_nil_of_length_eq_zero (by omega)
        subst e
        exact Ev_if c ⟨0, fun _ _ => rfl⟩
      · refine Ev_ifn c (Ev_if (by omega) ?_)
        have hd := szSs_drop_le x 1
        exact Ev.bind (spec_JoinLabels_eq (x.drop 1) (by rw [List.length_drop]; omega)) (Ev.now _)
    · generalize labelsL s = x at hl hz ⊢
      have hd := szSs_drop_le x 1
      have ej := impl_JoinLabels_eq (x.drop 1) (by rw [List.length_drop]; omega)
      by_cases c : (x.length : Int) < 2
      · simp only [if_pos c, Option.bind_some]
        have e : x.drop 1 = [] := List.drop_of_length_le (by omega)
        rw [e]
        exact Ev_if (by first | trivial | rfl) (Ev.now _)
      · simp only [if_neg c, if_pos (show (1 : Int) ≤ (x.length : Int) by omega), ej, Option.bind_some]
        exact Ev_if (by first | trivial | rfl) (Ev.now _)

end Go.Proofs.YtmcldfjfgmhklaaDoor.Pure
