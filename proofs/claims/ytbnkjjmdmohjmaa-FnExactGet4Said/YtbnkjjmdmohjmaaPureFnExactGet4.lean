/- For all byte slices and offsets the program's Get4 returns what the reference's returns. No condition. -/
import Derived.Test.YtbnkjjmdmohjmaaX
import Derived.Test.YtbnkjjmdmohjmaaLbytes
import Derived.Test.YtbnkjjmdmohjmaaLget4
import Derived.Test.YtbnkjjmdmohjmaaPrx1
import Derived.Test.YtbnkjjmdmohjmaaPrx2
namespace Go.Proofs.Ytbnkjjmdmohjmaa.Pure
open Go.RowKit Go.Proofs.Ytbnkjjmdmohjmaa.Pr Go.Proofs.Ytbnkjjmdmohjmaa.X Go.Proofs.Ytbnkjjmdmohjmaa.Lem Go.Proofs.YtbnkjjmdmohjmaaW.PrintWords Go.Proofs.YtbnkjjmdmohjmaaW.PrintLast Go.Proofs.YtbnkjjmdmohjmaaW.PrintMore
set_option linter.unusedVariables false
set_option linter.unusedSimpArgs false
theorem FnExactGet4 : laws_FnExactGet4.Pure := by
  intro l i _ hn hw hi
  have hb := wf_bytes hw
  have hn' : l.length ≤ 140737488351232 := by omega
  have wi := wf_int hi
  refine Ev.rounds ?_ (r := true)
  unfold laws_FnExactGet4.f
  by_cases hbig : (l.length : Int) > 1048576
  · simp only [if_pos hbig]
    exact Ev.now _
  · simp only [if_neg hbig]
    refine Ev.bind (toByteS_eq l hn') ?_
    refine Ev.bind (spec_Get4_eq l hn' hb i wi) ?_
    refine Ev.bind (toByteS_eq l hn') ?_
    refine Ev.bind (impl_Get4_eq l hn' hb i wi) ?_
    simp only [if_true]
    refine Ev.step (f := fun k => (laws_toByteS.f k l).bind fun t => (laws_eqByteS.f k l t).bind fun q => if q = true then some true else some false) (fun k => ?_) ?_
    · simp only [laws_FnExactGet4.j0]
      simp
    · refine Ev.bind (toByteS_eq l hn') ?_
      refine Ev.bind (eqByteS_same l hn') ?_
      exact Ev.now _

end Go.Proofs.Ytbnkjjmdmohjmaa.Pure
