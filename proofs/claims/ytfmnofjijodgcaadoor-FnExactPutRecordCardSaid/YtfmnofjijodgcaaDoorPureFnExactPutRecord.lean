/- For all byte slices and records the program's PutRecord returns what the reference's returns, in memory of its own, and leaves its argument alone. No condition. -/
import Derived.Test.YtfmnofjijodgcaaDoorY
import Derived.Test.YtfmnofjijodgcaaDoorLMExactPutRecord1
import Derived.Test.YtfmnofjijodgcaaDoorPrx0
import Derived.Test.YtfmnofjijodgcaaDoorPrx1
import Derived.Test.YtfmnofjijodgcaaDoorPrx13
namespace Go.Proofs.YtfmnofjijodgcaaDoor.Pure
open Go.RowKit Go.Proofs.YtfmnofjijodgcaaDoor.Pr Go.Proofs.YtfmnofjijodgcaaDoor.X Go.Proofs.YtfmnofjijodgcaaDoor.Y Go.Proofs.YtfmnofjijodgcaaDoor.Lem Go.Proofs.YtfmnofjijodgcaaDoorW.PrintWords Go.Proofs.YtfmnofjijodgcaaDoorW.PrintLast Go.Proofs.YtfmnofjijodgcaaDoorW.PrintMore
set_option linter.unusedVariables false
set_option linter.unusedSimpArgs false
theorem FnExactPutRecord : laws_FnExactPutRecord.Pure := by
  intro l a0 a1 a2 a3 a4 a5 hl0 hg
  obtain ⟨_, hn, hw⟩ := hl0
  refine Ev.rounds ?_ (r := true)
  unfold laws_FnExactPutRecord.f laws_toRecord.f
  by_cases hbig : (l.length : Int) > 1048576
  · exact Ev_if hbig (Ev.now _)
  · refine Ev_ifn hbig ?_
    obtain ⟨r, hr, r0, r1, r2⟩ := szRecord_eq ⟨a0, a1, a2, a3, a4, a5⟩ (g_okR hg) 1048576 (by omega)
    have hr' : laws_szRecord.f a0 a1 a2 a3 a4 a5 1048576 = some r := hr
    rw [hr']
    simp only [Option.bind_some]
    by_cases c : r < 0
    · exact Ev_if c (Ev.now _)
    · refine Ev_ifn c ?_
      have e := r2 (by omega)
      simp only [szR] at e
      obtain ⟨pl, hpl⟩ := places_exist l (by omega) (wf_bytes hw)
      have hle := putRecord_le pl l a0 a1 a2 a3 a4 a5 (by omega)
      have ht := toByteS_eq l (by omega)
      have hs := spec_PutRecord_eq pl l (by omega) hpl a0 a1 a2 a3 a4 a5 (by omega) (by omega) (by omega)
      have hi := impl_PutRecord_eq pl l (by omega) hpl a0 a1 a2 a3 a4 a5 (by omega) (by omega) (by omega)
      have el := eqByteS_same l (by omega)
      have n1 : ¬ (1 + (l.length : Int)) < 0 := by omega
      refine Ev.bind ht (Ev.bind hs (Ev.bind ht (Ev.bind hi ?_)))
      generalize putRecord pl l a0 a1 a2 a3 a4 a5 = x at hle hi
      have ee := eqByteS_same x (by omega)
      have n2 : ¬ (1 + (x.length : Int)) < 0 := by omega
      have hh := heldByteS_eq x.length (by omega)
      refine Ev.bind ee (Ev_if rfl (Ev.bind ht (Ev.bind el (Ev_if rfl ?_))))
      refine Ev.bind (markByteS_eq l (by omega)) (Ev_ifn n1 (Ev.bind ee (Ev_if rfl (Ev.bind (markByteS_eq x (by omega)) (Ev.bind hh (Ev_ifn n2 (Ev_if rfl ?_)))))))
      exact Ev.bind ht (Ev.bind hi (Ev.bind ee (Ev_if rfl (Ev.bind hh (Ev_ifn n2 (Ev_if rfl (Ev.now _)))))))

end Go.Proofs.YtfmnofjijodgcaaDoor.Pure
