/- For whatever is drawn: a label is read again from where it was put, what is read is a label, and the program's PutLabel, GetLabel, Fold and LabelOk return what the reference's return. No condition. -/
import Derived.Test.YtdigilidomimdaaY
import Derived.Test.YtdigilidomimdaaLMLabels1
import Derived.Test.YtdigilidomimdaaPrx0
import Derived.Test.YtdigilidomimdaaPrx2
import Derived.Test.YtdigilidomimdaaPrx4
import Derived.Test.YtdigilidomimdaaPrx5
namespace Go.Proofs.Ytdigilidomimdaa.Pure
open Go.RowKit Go.Proofs.Ytdigilidomimdaa.Pr Go.Proofs.Ytdigilidomimdaa.X Go.Proofs.Ytdigilidomimdaa.Y Go.Proofs.Ytdigilidomimdaa.Lem Go.Proofs.YtdigilidomimdaaW.PrintWords Go.Proofs.YtdigilidomimdaaW.PrintLast Go.Proofs.YtdigilidomimdaaW.PrintMore
set_option linter.unusedVariables false
set_option linter.unusedSimpArgs false
theorem FnLabels : laws_FnLabels.Pure := by
  intro l hl
  obtain ⟨_, hn, hw⟩ := hl
  refine Ev.rounds ?_ (r := true)
  unfold laws_FnLabels.f
  rw [big_eq]
  simp only [Option.bind_some, decide_eq_true_eq]
  by_cases hbig : (l.length : Int) > 1048576
  · exact Ev_if hbig (Ev.now _)
  · refine Ev_ifn hbig ?_
    obtain ⟨b, s, d1, p1, q1, r1⟩ := drawPutLabel_ev l (by omega)
    obtain ⟨c, i, d2, p2, q2, r2⟩ := drawGetLabel_ev l (by omega)
    obtain ⟨f, d3, r3⟩ := drawFold_ev l (by omega)
    have pl := putLabel_le b s
    have sm := same_eq (putLabel b s) (by omega)
    have gi := impl_GetLabel_eq c (by omega) p2 i r2
    have gs := spec_GetLabel_eq c (by omega) p2 i r2
    obtain ⟨f1, f2⟩ := fold_both f (by omega)
    obtain ⟨f3, _⟩ := fold_both (foldS f) (by rw [foldS_size]; omega)
    have lo := impl_LabelOk_eq s (by omega)
    have ls := spec_LabelOk_eq s (by omega)
    refine Ev.bind d1 (Ev.bind (impl_PutLabel_eq b (by omega) s (by omega)) (Ev.bind d2 (Ev.bind gi (Ev.bind gs (Ev.bind d3 (Ev.bind (spec_PutLabel_eq b (by omega) s (by omega)) (Ev.bind sm (Ev_if rfl (Ev_if rfl (Ev_if rfl (Ev_ifn (by simp) ?_)))))))))))
    refine Ev.bind (Ev_c f1) (Ev.bind (Ev_c f2) (Ev_if rfl (Ev.bind (Ev_c f1) (Ev.bind (Ev_c f3) (Ev.bind (Ev_c f1) (Ev_if (by rw [foldS_foldS]) (Ev.bind lo (Ev.bind ls (Ev_ifn (by simp) ?_)))))))))
    have last : Ev (fun k => (impl_LabelOk.f k s).bind fun t => if t = true then ((impl_GetLabel.f k (putLabel b s) (b.length : Int)).bind fun u => if u.2.2 = true then (if u.1.toList = s.toList then some (u.2.1 == ((putLabel b s).length : Int)) else some false) else some false) else ((laws_same.f k (putLabel b s) b).bind fun v => some v)) true := by
      refine Ev.bind lo ?_
      cases hk : labelOk s with
      | true =>
        have hs := labelOk_size hk
        have hx : putLabel b s = b ++ (labW s ++ []) := by rw [putLabel_ok b s hk, List.append_nil]
        have g := impl_GetLabel_eq (putLabel b s) (by omega) (bytes_putLabel p1 s) (b.length : Int) (by omega)
        have rt := rt_label b s [] hk
        rw [← hx] at rt
        rw [rt] at g
        refine Ev_if rfl (Ev.bind g (Ev_if rfl (Ev_if rfl ⟨0, fun _ _ => ?_⟩)))
        have hl := bytesOf_length s
        rw [hx]
        simp [labW, hl]
        omega
      | false =>
        refine Ev_ifn (by decide) (Ev_ret ?_)
        have e : putLabel b s = b := by unfold putLabel; rw [hk]; rfl
        rw [e] at sm ⊢
        exact sm
    by_cases ok : (getLabel c i).2.2 = true
    · obtain ⟨g1, g2, g3, g4, g5, g6, g7⟩ := getLabel_good p2 ok
      have g0 : 0 ≤ i := by
        unfold getLabel at ok
        split at ok
        · rename_i z
          exact z.1.1
        · cases ok
      have lk := impl_LabelOk_eq (getLabel c i).1 (by omega)
      rw [g1] at lk
      refine Ev_if ok (Ev.bind lk (Ev_if rfl (Ev_if ?_ last)))
      have e : ((getLabel c i).1.size : Int) = rd c i := by
        have hr := rd_byte p2 i
        unfold getLabel at ok ⊢
        split at ok
        · rename_i z
          rw [if_pos z]
          show ((labAt c i).size : Int) = rd c i
          unfold labAt
          rw [strOfNums_size, List.length_map, List.length_take, List.length_drop]
          omega
        · cases ok
      rw [g2, e, wrap_id (x := i + 1) (by omega) (by omega), wrap_id (x := i + 1 + rd c i) (by omega) (by omega)]
    · exact Ev_ifn ok last

end Go.Proofs.Ytdigilidomimdaa.Pure
