/- For whatever is drawn: a number comes back of its digits, and the program's NumText and ParseNum return what the reference's return. No condition. -/
import Derived.Test.YtbohkphbgkgaeaaY
import Derived.Test.YtbohkphbgkgaeaaLMDigits1
import Derived.Test.YtbohkphbgkgaeaaPrx0
import Derived.Test.YtbohkphbgkgaeaaPrx2
import Derived.Test.YtbohkphbgkgaeaaPrx3
namespace Go.Proofs.Ytbohkphbgkgaeaa.Pure
open Go.RowKit Go.Proofs.Ytbohkphbgkgaeaa.Pr Go.Proofs.Ytbohkphbgkgaeaa.X Go.Proofs.Ytbohkphbgkgaeaa.Y Go.Proofs.Ytbohkphbgkgaeaa.Lem Go.Proofs.YtbohkphbgkgaeaaW.PrintWords Go.Proofs.YtbohkphbgkgaeaaW.PrintLast Go.Proofs.YtbohkphbgkgaeaaW.PrintMore
set_option linter.unusedVariables false
set_option linter.unusedSimpArgs false
theorem FnDigits : laws_FnDigits.Pure := by
  intro l hl
  obtain ⟨_, hn, hw⟩ := hl
  refine Ev.rounds ?_ (r := true)
  unfold laws_FnDigits.f
  rw [big_eq]
  simp only [Option.bind_some, decide_eq_true_eq]
  by_cases hbig : (l.length : Int) > 1048576
  · exact Ev_if hbig (Ev.now _)
  · refine Ev_ifn hbig ?_
    obtain ⟨n, d1, p1⟩ := drawNumText_ev l (by omega)
    obtain ⟨s, d2⟩ := drawParseNum_ev l (by omega)
    obtain ⟨b1, b2, b3⟩ := parse_back s
    have iN := impl_NumText_eq n p1
    have iW := impl_NumText_eq (parseNum s).1 ⟨by omega, by omega⟩
    refine Ev.bind d1 (Ev.bind d2 (Ev.bind iN (Ev.bind (impl_ParseNum_eq (numText n)) (Ev.bind (impl_ParseNum_eq s) (Ev.bind (spec_ParseNum_eq s) (Ev.bind iN (Ev.bind (spec_NumText_eq n p1) (Ev_if rfl (Ev_if rfl (Ev_ifn (by simp) ?_))))))))))
    rw [parse_numText n p1]
    have last : Ev (fun k => if (parseNum s).2 = true then (impl_NumText.f k (parseNum s).1).bind fun t => some (t.toList == s.toList) else some true) true := by
      by_cases q : (parseNum s).2 = true
      · refine Ev_if q (Ev.bind iW ⟨0, fun _ _ => ?_⟩)
        rw [b3 q]
        simp
      · exact Ev_ifn q (Ev.now _)
    by_cases c0 : n ≥ 0
    · refine Ev_if c0 ?_
      by_cases c1 : n ≤ 2147483647
      · rw [if_pos ⟨c0, c1⟩, decide_eq_true c1]
        exact Ev_if rfl (Ev_if rfl (Ev_if rfl last))
      · rw [if_neg (fun q => c1 q.2), decide_eq_false c1]
        exact Ev_if rfl (Ev_ifn (by decide) last)
    · refine Ev_ifn c0 ?_
      rw [if_neg (fun q => c0 q.1)]
      exact Ev_if rfl (Ev_ifn (by decide) last)

end Go.Proofs.Ytbohkphbgkgaeaa.Pure
