/- For whatever is drawn: the labels of a string, joined, are that string; labels that are well formed are found again in what joins them; and the program's Labels and JoinLabels return what the reference's return. No condition. -/
import Derived.Test.YtbohkphbgkgaeaaDoorY
import Derived.Test.YtbohkphbgkgaeaaDoorLMJoins1
import Derived.Test.YtbohkphbgkgaeaaDoorPrx0
import Derived.Test.YtbohkphbgkgaeaaDoorPrx1
import Derived.Test.YtbohkphbgkgaeaaDoorPrx4
import Derived.Test.YtbohkphbgkgaeaaDoorPrx5
namespace Go.Proofs.YtbohkphbgkgaeaaDoor.Pure
open Go.RowKit Go.Proofs.YtbohkphbgkgaeaaDoor.Pr Go.Proofs.YtbohkphbgkgaeaaDoor.X Go.Proofs.YtbohkphbgkgaeaaDoor.Y Go.Proofs.YtbohkphbgkgaeaaDoor.Lem Go.Proofs.YtbohkphbgkgaeaaDoorW.PrintWords Go.Proofs.YtbohkphbgkgaeaaDoorW.PrintLast Go.Proofs.YtbohkphbgkgaeaaDoorW.PrintMore
set_option linter.unusedVariables false
set_option linter.unusedSimpArgs false
theorem joins_loop (x : List ByteArray) (hn : x.length ≤ 100) (hs : ∀ s ∈ x, s.size ≤ 20) (hz : szSs x ≤ 100000) : ∀ (d i : Nat), i + d = x.length → (∀ j (h : j < x.length), j < i → labelOk x[j] = true) → Ev (fun k => laws_FnJoins.l0 k x (i : Int)) true := by
  intro d
  induction d with
  | zero =>
    intro i hi hk
    have hall : ∀ s ∈ x, labelOk s = true := by
      intro s hm
      obtain ⟨j, hj, e⟩ := List.getElem_of_mem hm
      rw [← e]
      exact hk j hj (by omega)
    have e := labels_join x hall
    have hj := impl_JoinLabels_eq x (by omega)
    have hl := impl_Labels_eq (joinS x) (by rw [joinS_size_eq]; omega)
    rw [e] at hl
    refine Ev.step (f := fun k => (impl_JoinLabels.f x).bind fun t783 => ((impl_Labels.f t783).bind fun t784 => ((laws_sameStrs.f k t784 x).bind fun t787 => (some t787)))) (fun k => ?_) (Ev.bind (Ev_c hj) (Ev.bind (Ev_c hl) (Ev_ret (sameStrs_eq x (by omega)))))
    simp only [laws_FnJoins.l0]
    rw [if_neg (by omega)]
  | succ d ih =>
    intro i hi hk
    have w := wrap_succ i x.length (by omega) (by omega)
    have hil : i < x.length := by omega
    have e1 := impl_LabelOk_eq x[i] (by have := hs x[i] (List.getElem_mem _); omega)
    refine Ev.step (f := fun k => (impl_LabelOk.f k x[i]).bind fun t => if t = true then laws_FnJoins.l0 k x ((i + 1 : Nat) : Int) else some true) (fun k => ?_) (Ev.bind e1 ?_)
    · simp only [laws_FnJoins.l0]
      rw [if_pos (by omega), if_pos (by omega), rdS_getElem x i hil, w]
    · by_cases q : labelOk x[i] = true
      · refine Ev_if q (ih (i + 1) (by omega) (fun j hj hji => ?_))
        by_cases e : j = i
        · subst e
          exact q
        · exact hk j hj (by omega)
      · exact Ev_ifn q (Ev_some _)
theorem szSs_small : ∀ (x : List ByteArray), (∀ s ∈ x, s.size ≤ 20) → szSs x ≤ 20 * x.length
  | [], _ => Nat.le_refl _
  | a :: x, h => by
    have h1 := h a List.mem_cons_self
    have h2 := szSs_small x (fun s hs => h s (List.mem_cons_of_mem _ hs))
    rw [szSs_cons, List.length_cons]
    omega
theorem FnJoins : laws_FnJoins.Pure := by
  intro l hl
  obtain ⟨_, hn, hw⟩ := hl
  refine Ev.rounds ?_ (r := true)
  unfold laws_FnJoins.f
  rw [big_eq]
  simp only [Option.bind_some, decide_eq_true_eq]
  by_cases hbig : (l.length : Int) > 1048576
  · exact Ev_if hbig (Ev.now _)
  · refine Ev_ifn hbig ?_
    obtain ⟨s, d1, sz⟩ := drawLabels_ev l (by omega)
    obtain ⟨x, d2, sx, sy⟩ := drawJoinLabels_ev l (by omega)
    have zx := szSs_small x sy
    have zl := labelsL_size s
    have ll := labelsL_length s
    have j1 := impl_JoinLabels_eq x (by omega)
    have j3 := impl_JoinLabels_eq (labelsL s) (by omega)
    rw [join_labels] at j3
    refine Ev.bind d1 (Ev.bind d2 (Ev.bind (Ev_c (impl_Labels_eq s (by omega))) (Ev.bind (spec_Labels_eq s (by omega)) (Ev.bind (sameStrs_eq (labelsL s) (by omega)) (Ev_if rfl ?_)))))
    refine Ev.bind (Ev_c j1) (Ev.bind (spec_JoinLabels_eq x (by omega)) (Ev_if rfl (Ev.bind (Ev_c j3) (Ev_if rfl ?_))))
    exact joins_loop x sx sy (by omega) x.length 0 (by omega) (fun j _ h => absurd h (Nat.not_lt_zero _))

end Go.Proofs.YtbohkphbgkgaeaaDoor.Pure
