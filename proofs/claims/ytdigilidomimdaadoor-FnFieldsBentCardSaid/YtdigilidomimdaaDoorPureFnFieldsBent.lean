/- For whatever is drawn: the program's GetRecord, GetData and GetRecords return what the reference's return; every record that is decoded is valid and takes up bytes; and as many records are decoded as were asked for. No condition. -/
import Derived.Test.YtdigilidomimdaaDoorY
import Derived.Test.YtdigilidomimdaaDoorLMFieldsBent1
import Derived.Test.YtdigilidomimdaaDoorPrx0
import Derived.Test.YtdigilidomimdaaDoorPrx16
namespace Go.Proofs.YtdigilidomimdaaDoor.Pure
open Go.RowKit Go.Proofs.YtdigilidomimdaaDoor.Pr Go.Proofs.YtdigilidomimdaaDoor.X Go.Proofs.YtdigilidomimdaaDoor.Y Go.Proofs.YtdigilidomimdaaDoor.Lem Go.Proofs.YtdigilidomimdaaDoorW.PrintWords Go.Proofs.YtdigilidomimdaaDoorW.PrintLast Go.Proofs.YtdigilidomimdaaDoorW.PrintMore
set_option linter.unusedVariables false
set_option linter.unusedSimpArgs false
theorem FnFieldsBent : laws_FnFieldsBent.Pure := by
  intro l hl
  obtain ⟨_, hn, hw⟩ := hl
  refine Ev.rounds ?_ (r := true)
  unfold laws_FnFieldsBent.f
  rw [big_eq]
  simp only [Option.bind_some, decide_eq_true_eq]
  by_cases hbig : (l.length : Int) > 1048576
  · exact Ev_if hbig (Ev.now _)
  · refine Ev_ifn hbig ?_
    obtain ⟨b, i, d1, b1, b2, b3⟩ := drawGetRecord_ev l (by omega)
    obtain ⟨x, s1, i1, hp⟩ := rec_total b (by omega) b1 i b3
    obtain ⟨c, kk, n, ty, d2, c1, c2, c3⟩ := drawGetData_ev l (by omega)
    obtain ⟨nm, t1, t2, t5⟩ := name_get c (by omega) c1 kk c3
    have s2 := spec_GetData_eq c (by omega) c1 kk n ty nm t1 t5
    have i2 := impl_GetData_eq c (by omega) c1 kk n ty nm t2 t5
    obtain ⟨p, j, m, d3, p1, p2, p3⟩ := drawGetRecords_ev l (by omega)
    obtain ⟨r, s3, i3, r1, r2⟩ := recs_total p (by omega) p1 j m p3
    have sm := sameRecs_eq r.1 (by omega)
    refine Ev.bind d1 (Ev.bind i1 (Ev.bind s1 (Ev.bind d2 (Ev.bind i2 (Ev.bind s2 (Ev.bind d3 (Ev.bind i3 (Ev.bind s3 ?_))))))))
    refine Ev_ifn (by simp) (Ev_if rfl (Ev_if rfl (Ev_ifn (by simp) (Ev_if rfl (Ev.bind sm (Ev_if rfl (Ev_if rfl (Ev_if rfl ?_))))))))
    have fin : Ev (fun _ => if r.2.2 = 0 then some ((r.1.length : Int) == m) else some true) true := by
      by_cases z : r.2.2 = 0
      · refine Ev_if z ?_
        rw [r2 z]
        simp only [beq_self_eq_true]
        exact Ev.now _
      · exact Ev_ifn z (Ev.now _)
    rcases hp with ⟨q1, q2, q3, _⟩ | ⟨q1, _⟩
    · have z := recOk_sizes q2
      have ok := impl_RecordOk_eq x.1 x.2.1 x.2.2.1 x.2.2.2.1 x.2.2.2.2.1 x.2.2.2.2.2.1 (by omega) (by omega) (by omega)
      rw [q2] at ok
      exact Ev_if q1 (Ev.bind ok (Ev_if rfl (Ev_if q3 fin)))
    · exact Ev_ifn q1 fin

end Go.Proofs.YtdigilidomimdaaDoor.Pure
