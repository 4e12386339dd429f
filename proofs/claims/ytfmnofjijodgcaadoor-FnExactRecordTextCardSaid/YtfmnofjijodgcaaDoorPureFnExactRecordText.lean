/- For all records the program's RecordText returns what the reference's returns. No condition. -/
import Derived.Test.YtfmnofjijodgcaaDoorY
import Derived.Test.YtfmnofjijodgcaaDoorLMExactRecordText1
import Derived.Test.YtfmnofjijodgcaaDoorPrx0
import Derived.Test.YtfmnofjijodgcaaDoorPrx11
import Derived.Test.YtfmnofjijodgcaaDoorPrx26
namespace Go.Proofs.YtfmnofjijodgcaaDoor.Pure
open Go.RowKit Go.Proofs.YtfmnofjijodgcaaDoor.Pr Go.Proofs.YtfmnofjijodgcaaDoor.X Go.Proofs.YtfmnofjijodgcaaDoor.Y Go.Proofs.YtfmnofjijodgcaaDoor.Lem Go.Proofs.YtfmnofjijodgcaaDoorW.PrintWords Go.Proofs.YtfmnofjijodgcaaDoorW.PrintLast Go.Proofs.YtfmnofjijodgcaaDoorW.PrintMore
set_option linter.unusedVariables false
set_option linter.unusedSimpArgs false
theorem FnExactRecordText : laws_FnExactRecordText.Pure := by
  intro a0 a1 a2 a3 a4 a5 hg
  refine Ev.rounds ?_ (r := true)
  unfold laws_FnExactRecordText.f laws_toRecord.f
  obtain ⟨r, hr, r0, r1, r2⟩ := szRecord_eq ⟨a0, a1, a2, a3, a4, a5⟩ (g_okR hg) 1048576 (by omega)
  have hr' : laws_szRecord.f a0 a1 a2 a3 a4 a5 1048576 = some r := hr
  obtain ⟨_, _, g2, g3, _, _⟩ := hg
  rw [hr']
  simp only [Option.bind_some]
  by_cases c : r < 0
  · exact Ev_if c (Ev.now _)
  · have e := r2 (by omega)
    simp only [szR] at e
    obtain ⟨t, h1, h2, _⟩ := recText_both a0 a1 a2 a3 a4 a5 (by omega) (by omega) (by omega) (wf_int g2) (wf_int g3)
    exact Ev_ifn c (Ev.bind h1 (Ev.bind h2 (Ev_if rfl (Ev.now _))))

end Go.Proofs.YtfmnofjijodgcaaDoor.Pure
