/- For whatever is drawn: a name that PutName or PutPlain put is read again, whole and at its end; the shortened form is no longer than the plain one; put a second time the name costs at most two bytes; a plain name holds no jump; and the program's PutName and PutPlain return what the reference's return. No condition. -/
import Derived.Test.YtbohkphbgkgaeaaDoorY
import Derived.Test.YtbohkphbgkgaeaaDoorLMWires1
import Derived.Test.YtbohkphbgkgaeaaDoorPrx0
import Derived.Test.YtbohkphbgkgaeaaDoorPrx11
import Derived.Test.YtbohkphbgkgaeaaDoorPrx16
import Derived.Test.YtbohkphbgkgaeaaDoorPrx6
namespace Go.Proofs.YtbohkphbgkgaeaaDoor.Pure
open Go.RowKit Go.Proofs.YtbohkphbgkgaeaaDoor.Pr Go.Proofs.YtbohkphbgkgaeaaDoor.X Go.Proofs.YtbohkphbgkgaeaaDoor.Y Go.Proofs.YtbohkphbgkgaeaaDoor.Lem Go.Proofs.YtbohkphbgkgaeaaDoorW.PrintWords Go.Proofs.YtbohkphbgkgaeaaDoorW.PrintLast Go.Proofs.YtbohkphbgkgaeaaDoorW.PrintMore
set_option linter.unusedVariables false
set_option linter.unusedSimpArgs false
theorem le_sum {a b c : Nat} (h : b ≤ c + 1) : a + b ≤ a + c + 1 := by omega
theorem le_two {a b : Nat} (h : b ≤ 2) : ((a + b : Nat) : Int) ≤ (a : Int) + 2 := by omega
theorem FnWires : laws_FnWires.Pure := by
  intro l hl
  obtain ⟨_, hn, hw⟩ := hl
  refine Ev.rounds ?_ (r := true)
  unfold laws_FnWires.f
  rw [big_eq]
  simp only [Option.bind_some, decide_eq_true_eq]
  by_cases hbig : (l.length : Int) > 1048576
  · exact Ev_if hbig (Ev.now _)
  · refine Ev_ifn hbig ?_
    obtain ⟨b, s, d1, hb, hbn, hs⟩ := drawPutName_ev l (by omega)
    obtain ⟨pl, hpl⟩ := places_exist b (by omega) hb
    have n1 := impl_PutName_eq b (by omega) pl hpl s (by omega)
    have n2 := spec_PutName_eq b (by omega) pl hpl s (by omega)
    have p1 := impl_PutPlain_eq b (by omega) s (by omega)
    have p2 := spec_PutPlain_eq b (by omega) s (by omega)
    have nl := putName_le pl b s
    have q1 := same_eq (putName pl b s) (by omega)
    have bn := bytes_putName pl hb s
    have bp := bytes_putPlain hb s
    have nk := impl_NameOk_eq s (by omega)
    by_cases ok : nameOk s = true
    · rw [ok] at nk
      obtain ⟨hall, _, hlen⟩ := nameOk_all ok
      have hz := szSs_ok _ hall
      have wl := wire_le (labelsL s) hall
      have ep : putPlain b s = b ++ (wire (labelsL s) ++ [0]) := by unfold putPlain; rw [if_pos ok]
      have en : putName pl b s = b ++ nameW pl (labelsL s) := by unfold putName; rw [if_pos ok]
      have lp : (putPlain b s).length = b.length + (wire (labelsL s)).length + 1 := by rw [ep]; simp; omega
      have q2 := same_eq (putPlain b s) (by omega)
      obtain ⟨j, g1⟩ := name_walk b [] pl hpl s ok (by rw [List.append_nil, ← en]; omega) (by rw [List.append_nil, ← en]; exact bn)
      rw [List.append_nil, ← en] at g1
      have g2 := plain_walk b [] s ok (by rw [← ep]; omega) (by rw [← ep]; exact bp)
      rw [← ep] at g2
      have G1 : Ev (fun k => impl_GetName.f k (putName pl b s) (b.length : Int)) (s, ((b.length + (nameW pl (labelsL s)).length : Nat) : Int), 0) := by
        unfold impl_GetName.f
        exact Ev.bind g1 (Ev_some _)
      have G2 : Ev (fun k => impl_GetName.f k (putPlain b s) (b.length : Int)) (s, ((b.length + (wire (labelsL s)).length + 1 : Nat) : Int), 0) := by
        unfold impl_GetName.f
        exact Ev.bind g2 (Ev_some _)
      have J2 : Ev (fun k => impl_JumpsIn.f k (putPlain b s) (b.length : Int)) 0 := by
        unfold impl_JumpsIn.f
        exact Ev.bind g2 (Ev_some _)
      obtain ⟨pl2, hpl2⟩ := places_exist (putName pl b s) (by omega) bn
      have n3 := impl_PutName_eq (putName pl b s) (by omega) pl2 hpl2 s (by omega)
      have nl2 := putName_le pl2 (putName pl b s) s
      have en2 : putName pl2 (putName pl b s) s = putName pl b s ++ nameW pl2 (labelsL s) := by unfold putName; rw [if_pos ok]
      have bn2 := bytes_putName pl2 bn s
      obtain ⟨j2, g3⟩ := name_walk (putName pl b s) [] pl2 hpl2 s ok (by rw [List.append_nil, ← en2]; omega) (by rw [List.append_nil, ← en2]; exact bn2)
      rw [List.append_nil, ← en2] at g3
      have G3 : Ev (fun k => impl_GetName.f k (putName pl2 (putName pl b s) s) ((putName pl b s).length : Int)) (s, (((putName pl b s).length + (nameW pl2 (labelsL s)).length : Nat) : Int), 0) := by
        unfold impl_GetName.f
        exact Ev.bind g3 (Ev_some _)
      have le : (putName pl b s).length = b.length + (nameW pl (labelsL s)).length := by rw [en]; simp
      have short := nameW_short pl (labelsL s)
      have twice : (nameW pl2 (labelsL s)).length ≤ 2 := second_name (putName pl b s) (by omega) bn b.length (by rw [le]; have := nameW_pos pl (labelsL s); omega) (by omega) s _ G1 pl2 hpl2
      have w : wrap64 (((putName pl b s).length : Int) + 2) = ((putName pl b s).length : Int) + 2 := wrap_id (by omega) (by omega)
      have c1 : ((b.length + (nameW pl (labelsL s)).length : Nat) : Int) = ((putName pl b s).length : Int) := congrArg (fun x : Nat => (x : Int)) le.symm
      have c2 : ((b.length + (wire (labelsL s)).length + 1 : Nat) : Int) = ((putPlain b s).length : Int) := congrArg (fun x : Nat => (x : Int)) lp.symm
      have c3 : ((putName pl b s).length : Int) ≤ ((putPlain b s).length : Int) := Int.ofNat_le.2 (by rw [le, lp]; exact le_sum short)
      have c4 : (((putName pl b s).length + (nameW pl2 (labelsL s)).length : Nat) : Int) ≤ ((putName pl b s).length : Int) + 2 := le_two twice
      refine Ev.bind d1 (Ev.bind n1 (Ev.bind p1 (Ev.bind n2 (Ev.bind q1 (Ev_if rfl (Ev.bind p2 (Ev.bind q2 (Ev_if rfl (Ev.bind nk (Ev_if rfl ?_))))))))))
      refine Ev.bind G1 (Ev.bind G2 (Ev.bind n3 (Ev.bind G3 ?_)))
      rw [w]
      refine Ev_if rfl (Ev_if rfl (Ev_if c1 (Ev_if rfl (Ev_if rfl (Ev_if c2 (Ev_if c3 (Ev_if rfl (Ev_if rfl (Ev_if c4 (Ev.bind J2 (Ev_some _)))))))))))
    · have nkf : nameOk s = false := by cases h : nameOk s <;> simp_all
      rw [nkf] at nk
      have ep : putPlain b s = b := by unfold putPlain; rw [if_neg ok]
      have en : putName pl b s = b := by unfold putName; rw [if_neg ok]
      rw [en] at n1 n2 q1
      rw [ep] at p1 p2
      refine Ev.bind d1 (Ev.bind n1 (Ev.bind p1 (Ev.bind n2 (Ev.bind q1 (Ev_if rfl (Ev.bind p2 (Ev.bind q1 (Ev_if rfl (Ev.bind nk (Ev_ifn (by decide) ?_))))))))))
      exact Ev.bind q1 (Ev_if rfl (Ev_ret q1))

end Go.Proofs.YtbohkphbgkgaeaaDoor.Pure
