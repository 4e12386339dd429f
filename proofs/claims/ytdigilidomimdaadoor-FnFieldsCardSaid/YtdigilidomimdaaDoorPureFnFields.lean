/- For whatever is drawn: a record that PutRecord puts behind a row of bytes is read again, whole and at its end, and so are its data alone; a record that is not right leaves the row as it is; and the program's PutRecord and PutData return what the reference's return. No condition. -/
import Derived.Test.YtdigilidomimdaaDoorY
import Derived.Test.YtdigilidomimdaaDoorLMFields1
import Derived.Test.YtdigilidomimdaaDoorPrx0
import Derived.Test.YtdigilidomimdaaDoorPrx16
namespace Go.Proofs.YtdigilidomimdaaDoor.Pure
open Go.RowKit Go.Proofs.YtdigilidomimdaaDoor.Pr Go.Proofs.YtdigilidomimdaaDoor.X Go.Proofs.YtdigilidomimdaaDoor.Y Go.Proofs.YtdigilidomimdaaDoor.Lem Go.Proofs.YtdigilidomimdaaDoorW.PrintWords Go.Proofs.YtdigilidomimdaaDoorW.PrintLast Go.Proofs.YtdigilidomimdaaDoorW.PrintMore
set_option linter.unusedVariables false
set_option linter.unusedSimpArgs false
theorem FnFields : laws_FnFields.Pure := by
  intro l hl
  obtain ⟨_, hn, hw⟩ := hl
  refine Ev.rounds ?_ (r := true)
  unfold laws_FnFields.f
  rw [big_eq]
  simp only [Option.bind_some, decide_eq_true_eq]
  by_cases hbig : (l.length : Int) > 1048576
  · exact Ev_if hbig (Ev.now _)
  · refine Ev_ifn hbig ?_
    obtain ⟨b, a0, a1, a2, a3, a4, a5, d1, hb, hbn, f0, f4, f5⟩ := drawPutRecord_ev l (by omega)
    obtain ⟨pl, hpl⟩ := places_exist b (by omega) hb
    have p1 := impl_PutRecord_eq pl b (by omega) hpl a0 a1 a2 a3 a4 a5 (by omega) (by omega) (by omega)
    have p2 := spec_PutRecord_eq pl b (by omega) hpl a0 a1 a2 a3 a4 a5 (by omega) (by omega) (by omega)
    have q1 := impl_PutData_eq a0 a1 a2 a3 a4 a5 (by omega) (by omega) (by omega)
    have q2 := spec_PutData_eq a0 a1 a2 a3 a4 a5 (by omega) (by omega) (by omega)
    have rk := impl_RecordOk_eq a0 a1 a2 a3 a4 a5 (by omega) (by omega) (by omega)
    have le := putRecord_le pl b a0 a1 a2 a3 a4 a5 (by omega)
    have s1 := same_eq (putRecord pl b a0 a1 a2 a3 a4 a5) (by omega)
    by_cases ok : recOk a0 a1 a2 a3 a4 a5 = true
    · rw [ok] at rk
      have dl := putData_small a0 a1 a2 a3 a4 a5 ok
      have s2 := same_eq (putData a0 a1 a2 a3 a4 a5) (by omega)
      have bn := bytes_putRecord pl hb a0 a1 a2 a3 a4 a5
      have bd := bytes_putData a0 a1 a2 a3 a4 a5
      have rt := rec_rt_i pl b [] hpl a0 a1 a2 a3 a4 a5 ok (by rw [List.append_nil]; omega) (by rw [List.append_nil]; exact bn)
      rw [List.append_nil] at rt
      have hw := host_walk [] [] a0 a1 a2 a3 a4 a5 ok
      have dr := data_rt [] [] a0 a1 a2 a3 a4 a5 ok
      simp only [List.append_nil, List.nil_append, List.length_nil, Int.natCast_zero, Int.zero_add] at hw dr
      generalize putData a0 a1 a2 a3 a4 a5 = d at dl s2 bd hw dr q1 q2
      obtain ⟨nm, t1, t2, t5⟩ := name_get d (by omega) bd 0 (by omega)
      have hnm : (a1 = 2 ∨ a1 = 5 ∨ a1 = 6) → nm.1 = a4 ∧ nm.2.1 = ((putPlain [] a4).length : Int) ∧ nm.2.2.1 = 0 := by
        intro c
        have u := Ev_unique (name_known d (by omega) bd 0 (by omega) _ (hw c (by omega) bd)).2.1 t2
        have u1 := congrArg (fun x : ByteArray × Int × Int => x.1) u
        have u2 := congrArg (fun x : ByteArray × Int × Int => x.2.1) u
        have u3 := congrArg (fun x : ByteArray × Int × Int => x.2.2) u
        simp only at u1 u2 u3
        exact ⟨u1.symm, u2.symm, u3.symm⟩
      have gd := impl_GetData_eq d (by omega) bd 0 (d.length : Int) a1 nm t2 t5
      rw [dr nm hnm] at gd
      refine Ev.bind d1 (Ev.bind p1 (Ev.bind q1 (Ev.bind p2 (Ev.bind s1 (Ev_if rfl (Ev.bind q2 (Ev.bind s2 (Ev_if rfl (Ev.bind rk (Ev_if rfl (Ev.bind rt (Ev.bind gd ?_))))))))))))
      refine Ev_if rfl (Ev_if (by simp) (Ev_if rfl (Ev_if rfl ?_)))
      simp only [beq_self_eq_true, Bool.and_self]
      exact Ev.now _
    · have ef : recOk a0 a1 a2 a3 a4 a5 = false := by cases h : recOk a0 a1 a2 a3 a4 a5 <;> simp_all
      rw [ef] at rk
      have ep : putRecord pl b a0 a1 a2 a3 a4 a5 = b := by unfold putRecord; rw [if_neg ok]
      have ed : putData a0 a1 a2 a3 a4 a5 = [] := by unfold putData; rw [if_neg ok]
      rw [ep] at p1 p2 s1
      rw [ed] at q1 q2
      have s0 := same_eq [] (by simp)
      refine Ev.bind d1 (Ev.bind p1 (Ev.bind q1 (Ev.bind p2 (Ev.bind s1 (Ev_if rfl (Ev.bind q2 (Ev.bind s0 (Ev_if rfl (Ev.bind rk (Ev_ifn (by decide) (Ev.bind s1 (Ev_if rfl ?_))))))))))))
      exact Ev.now _

end Go.Proofs.YtdigilidomimdaaDoor.Pure
