/- For whatever is drawn: of two different names exactly one is less than the other, and no name is less than itself; a name is less than those under it; and the program's LessName returns what the reference's returns. No condition. -/
import Derived.Test.YtbohkphbgkgaeaaDoorY
import Derived.Test.YtbohkphbgkgaeaaDoorLMOrders1
import Derived.Test.YtbohkphbgkgaeaaDoorPrx0
import Derived.Test.YtbohkphbgkgaeaaDoorPrx2
import Derived.Test.YtbohkphbgkgaeaaDoorPrx3
namespace Go.Proofs.YtbohkphbgkgaeaaDoor.Pure
open Go.RowKit Go.Proofs.YtbohkphbgkgaeaaDoor.Pr Go.Proofs.YtbohkphbgkgaeaaDoor.X Go.Proofs.YtbohkphbgkgaeaaDoor.Y Go.Proofs.YtbohkphbgkgaeaaDoor.Lem Go.Proofs.YtbohkphbgkgaeaaDoorW.PrintWords Go.Proofs.YtbohkphbgkgaeaaDoorW.PrintLast Go.Proofs.YtbohkphbgkgaeaaDoorW.PrintMore
set_option linter.unusedVariables false
set_option linter.unusedSimpArgs false
theorem FnOrders : laws_FnOrders.Pure := by
  intro l hl
  obtain ⟨_, hn, hw⟩ := hl
  refine Ev.rounds ?_ (r := true)
  unfold laws_FnOrders.f
  rw [big_eq]
  simp only [Option.bind_some, decide_eq_true_eq]
  by_cases hbig : (l.length : Int) > 1048576
  · exact Ev_if hbig (Ev.now _)
  · refine Ev_ifn hbig ?_
    obtain ⟨a, b, d1, sa, sb⟩ := drawLessName_ev l (by omega)
    have iab := impl_LessName_eq a b (by omega) (by omega)
    have iba := impl_LessName_eq b a (by omega) (by omega)
    have iaa := impl_LessName_eq a a (by omega) (by omega)
    have sab := spec_LessName_eq a b (by omega) (by omega)
    have uab := impl_Under_eq a b (by omega) (by omega)
    have naa : lessN a a = false := by
      cases h : lessN a a with
      | false => rfl
      | true => rw [lessN_asymm a a h] at h; cases h
    rw [naa] at iaa
    refine Ev.bind d1 (Ev.bind iab (Ev.bind sab (Ev_ifn (by simp) (Ev.bind iaa (Ev_ifn (by decide) ?_)))))
    have tail : Ev (fun k => (impl_Under.f k a b).bind fun t => if t = true then (if a.toList = b.toList then some true else (impl_LessName.f k b a).bind fun t => some t) else some true) true := by
      refine Ev.bind uab ?_
      by_cases u : underL (labelsL a) (labelsL b) = true
      · refine Ev_if u ?_
        by_cases e : a.toList = b.toList
        · exact Ev_if e (Ev_some _)
        · refine Ev_ifn e (Ev_ret ?_)
          rw [under_less a b u (fun h => e (by rw [h]))] at iba
          exact iba
      · exact Ev_ifn u (Ev_some _)
    by_cases ab : lessN a b = true
    · have ba := lessN_asymm a b ab
      have ne : ¬ a = b := fun h => by rw [h] at ab; rw [h] at naa; rw [naa] at ab; cases ab
      have net : (a.toList == b.toList) = false := by
        rw [beq_eq_false_iff_ne]
        exact fun h => ne (toList_inj.1 h)
      rw [ab] at iab
      rw [ba] at iba
      refine Ev.bind iab (Ev_if rfl (Ev.bind iba (Ev_ifn (by decide) (Ev.bind iab (Ev_if rfl ?_)))))
      simp only [net]
      exact Ev_if rfl tail
    · have ab' : lessN a b = false := by cases h : lessN a b <;> simp_all
      rw [ab'] at iab
      have ba : (lessN b a != (a.toList == b.toList)) = true := by
        by_cases e : a = b
        · subst e
          rw [naa]
          simp
        · have : (a.toList == b.toList) = false := by
            rw [beq_eq_false_iff_ne]
            exact fun h => e (toList_inj.1 h)
          rw [this, lessN_total a b e ab']
          rfl
      exact Ev.bind iab (Ev_ifn (by decide) (Ev.bind iab (Ev_ifn (by decide) (Ev.bind iba (Ev_if ba tail)))))

end Go.Proofs.YtbohkphbgkgaeaaDoor.Pure
