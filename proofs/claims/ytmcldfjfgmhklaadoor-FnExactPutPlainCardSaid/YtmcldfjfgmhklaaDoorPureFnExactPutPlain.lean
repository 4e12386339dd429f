/- For all byte slices and strings the program's PutPlain returns what the reference's returns, in memory of its own, and leaves its argument alone. No condition. -/
import Derived.Test.YtmcldfjfgmhklaaDoorY
import Derived.Test.YtmcldfjfgmhklaaDoorLbytes
import Derived.Test.YtmcldfjfgmhklaaDoorLev
import Derived.Test.YtmcldfjfgmhklaaDoorLmark
import Derived.Test.YtmcldfjfgmhklaaDoorLmark2
import Derived.Test.YtmcldfjfgmhklaaDoorLplain
import Derived.Test.YtmcldfjfgmhklaaDoorPrx0
import Derived.Test.YtmcldfjfgmhklaaDoorPrx15
namespace Go.Proofs.YtmcldfjfgmhklaaDoor.Pure
open Go.RowKit Go.Proofs.YtmcldfjfgmhklaaDoor.Pr Go.Proofs.YtmcldfjfgmhklaaDoor.X Go.Proofs.YtmcldfjfgmhklaaDoor.Y Go.Proofs.YtmcldfjfgmhklaaDoor.Lem Go.Proofs.YtmcldfjfgmhklaaDoorW.PrintWords Go.Proofs.YtmcldfjfgmhklaaDoorW.PrintLast Go.Proofs.YtmcldfjfgmhklaaDoorW.PrintMore
set_option linter.unusedVariables false
set_option linter.unusedSimpArgs false
theorem FnExactPutPlain : laws_FnExactPutPlain.Pure := by
  intro l s hl0 hs0
  obtain ⟨_, hn, hw⟩ := hl0
  refine Ev.rounds ?_ (r := true)
  unfold laws_FnExactPutPlain.f
  by_cases hbig : (l.length : Int) > 1048576
  · exact Ev_if hbig (Ev.now _)
  · refine Ev_ifn hbig ?_
    by_cases hbig2 : (s.size : Int) > 1048576
    · exact Ev_if hbig2 (Ev.now _)
    · refine Ev_ifn hbig2 ?_
      have hle := putPlain_le l s
      have ht := toByteS_eq l (by omega)
      have hi := impl_PutPlain_eq l (by omega) s (by omega)
      have ee := eqByteS_same (putPlain l s) (by omega)
      have el := eqByteS_same l (by omega)
      have n1 : ¬ (1 + (l.length : Int)) < 0 := by omega
      have n2 : ¬ (1 + ((putPlain l s).length : Int)) < 0 := by omega
      have hh := heldByteS_eq (putPlain l s).length (by omega)
      refine Ev.bind ht (Ev.bind (spec_PutPlain_eq l (by omega) s (by omega)) (Ev.bind ht (Ev.bind hi (Ev.bind ee (Ev_if rfl (Ev.bind ht (Ev.bind el (Ev_if rfl ?_))))))))
      refine Ev.bind (markByteS_eq l (by omega)) (Ev_ifn n1 (Ev.bind ee (Ev_if rfl (Ev.bind (markByteS_eq (putPlain l s) (by omega)) (Ev.bind hh (Ev_ifn n2 (Ev_if rfl ?_)))))))
      exact Ev.bind ht (Ev.bind hi (Ev.bind ee (Ev_if rfl (Ev.bind hh (Ev_ifn n2 (Ev_if rfl (Ev.now _)))))))

end Go.Proofs.YtmcldfjfgmhklaaDoor.Pure
