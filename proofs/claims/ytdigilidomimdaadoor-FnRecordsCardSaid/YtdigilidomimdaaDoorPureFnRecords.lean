/- For whatever is drawn: of two different records exactly one is less than the other; SortRecords returns as many records as it was given, sorted; a record's text is empty if and only if the record is not valid; and the program's LessRecord, SortRecords, RecordText, RecordOk and SameRecords return what the reference's return. No condition. -/
import Derived.Test.YtdigilidomimdaaDoorY
import Derived.Test.YtdigilidomimdaaDoorLMRecords1
import Derived.Test.YtdigilidomimdaaDoorPrx0
import Derived.Test.YtdigilidomimdaaDoorPrx12
import Derived.Test.YtdigilidomimdaaDoorPrx19
namespace Go.Proofs.YtdigilidomimdaaDoor.Pure
open Go.RowKit Go.Proofs.YtdigilidomimdaaDoor.Pr Go.Proofs.YtdigilidomimdaaDoor.X Go.Proofs.YtdigilidomimdaaDoor.Y Go.Proofs.YtdigilidomimdaaDoor.Lem Go.Proofs.YtdigilidomimdaaDoorW.PrintWords Go.Proofs.YtdigilidomimdaaDoorW.PrintLast Go.Proofs.YtdigilidomimdaaDoorW.PrintMore
set_option linter.unusedVariables false
set_option linter.unusedSimpArgs false
theorem FnRecords : laws_FnRecords.Pure := by
  intro l hl
  obtain ⟨_, hn, hw⟩ := hl
  refine Ev.rounds ?_ (r := true)
  unfold laws_FnRecords.f
  rw [big_eq]
  simp only [Option.bind_some, decide_eq_true_eq]
  by_cases hbig : (l.length : Int) > 1048576
  · exact Ev_if hbig (Ev.now _)
  · refine Ev_ifn hbig ?_
    obtain ⟨a, b, d1, sa, sb⟩ := drawLessRecord_ev l (by omega)
    obtain ⟨x, d2, x1, x2⟩ := drawSortRecords_ev l (by omega)
    obtain ⟨c, d3, sc, k2, k3⟩ := drawRecordText_ev l (by omega)
    obtain ⟨p, q, d4, p1, q1⟩ := drawSameRecords_ev l (by omega)
    obtain ⟨s, s1, s2, s3, s4⟩ := SortRecords_eq x (by omega) (fun y hy => smallR_fit (x2 y hy))
    have sl := s4.length_eq
    have iab := rlt_LessRecord a b sa sb
    obtain ⟨a0, a4, a5⟩ := sa
    obtain ⟨b0, b4, b5⟩ := sb
    have sab : Ev (fun k => spec_LessRecord.f k a.f0 a.f1 a.f2 a.f3 a.f4 a.f5 b.f0 b.f1 b.f2 b.f3 b.f4 b.f5) (rlt a b) := spec_LessRecord_eq _ _ _ _ _ _ _ _ _ _ _ _ (by omega) (by omega) (by omega) (by omega) (by omega) (by omega)
    have sm := sameRecsG_eq s s (by omega)
    rw [sameL_self] at sm
    have fin := records_j0 x s a b c ⟨a0, a4, a5⟩ ⟨b0, b4, b5⟩ (records_loop x s c s3 s4 (fun y hy => x2 y (s4.mem_iff.1 hy)) (by omega) sc k2 k3 (max s.length 1 - 1) 1 (by omega) (by omega))
    obtain ⟨c0, c4, c5⟩ := sc
    obtain ⟨t, t1, t2, _, _⟩ := recText_both c.f0 c.f1 c.f2 c.f3 c.f4 c.f5 (by omega) (by omega) (by omega) k2 k3
    have ok1 := impl_RecordOk_eq c.f0 c.f1 c.f2 c.f3 c.f4 c.f5 (by omega) (by omega) (by omega)
    have ok2 := spec_RecordOk_eq c.f0 c.f1 c.f2 c.f3 c.f4 c.f5 (by omega) (by omega) (by omega)
    have i5 := impl_SameRecords_eq p q (by omega)
    have l5 := sameRecsG_eq p q (by omega)
    refine Ev.bind d1 (Ev.bind d2 (Ev.bind d3 (Ev.bind d4 (Ev.bind s2 (Ev.bind iab (Ev.bind sab (Ev_ifn (by simp) (Ev.bind s1 (Ev.bind sm (Ev_if rfl (Ev.bind t2 (Ev.bind t1 (Ev_if rfl (Ev.bind ok1 (Ev.bind ok2 (Ev_ifn (by simp) (Ev.bind i5 (Ev.bind l5 ?_))))))))))))))))))
    simp only [bne_self_eq_false]
    exact fin

end Go.Proofs.YtdigilidomimdaaDoor.Pure
