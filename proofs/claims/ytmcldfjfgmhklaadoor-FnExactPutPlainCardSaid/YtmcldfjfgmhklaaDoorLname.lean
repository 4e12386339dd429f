/- Lemmas on the printed functions, of this session. -/
import Derived.Test.YtmcldfjfgmhklaaDoorY
import Derived.Test.YtmcldfjfgmhklaaDoorLev
import Derived.Test.YtmcldfjfgmhklaaDoorLlabel
import Derived.Test.YtmcldfjfgmhklaaDoorLlabels
import Derived.Test.YtmcldfjfgmhklaaDoorLstrs
import Derived.Test.YtmcldfjfgmhklaaDoorLup
import Derived.Test.YtmcldfjfgmhklaaDoorPrx0
import Derived.Test.YtmcldfjfgmhklaaDoorPrx2
import Derived.Test.YtmcldfjfgmhklaaDoorPrx3
namespace Go.Proofs.YtmcldfjfgmhklaaDoor.Lem
open Go.RowKit Go.Proofs.YtmcldfjfgmhklaaDoor.Pr Go.Proofs.YtmcldfjfgmhklaaDoor.X Go.Proofs.YtmcldfjfgmhklaaDoor.Y Go.Proofs.YtmcldfjfgmhklaaDoorW.PrintWords Go.Proofs.YtmcldfjfgmhklaaDoorW.PrintLast Go.Proofs.YtmcldfjfgmhklaaDoorW.PrintMore
set_option linter.unusedVariables false
set_option linter.unusedSimpArgs false
theorem szSs_mem : ∀ (l : List ByteArray) (x : ByteArray), x ∈ l → x.size ≤ szSs l
  | [], x, h => by cases h
  | y :: l, x, h => by
    rw [szSs_cons]
    rcases List.mem_cons.1 h with e | h
    · subst e
      omega
    · have := szSs_mem l x h
      omega
theorem labels_mem_size (s x : ByteArray) (h : x ∈ labelsL s) : x.size ≤ s.size := Nat.le_trans (szSs_mem _ x h) (labelsL_size s)
/-- What NameOk answers. -/
def nameOk (s : ByteArray) : Bool := (labelsL s).all labelOk && (decide (s.size ≤ 50) && decide ((labelsL s).length ≤ 6))
theorem spec_NameOk_loop (s : ByteArray) (l : List ByteArray) (hn : l.length ≤ 140737488351232) (hz : ∀ x ∈ l, x.size ≤ 1048576) : ∀ (d i : Nat), i + d = l.length →
    Ev (fun k => spec_NameOk.l0 k s l (i : Int)) ((l.drop i).all labelOk && (decide (s.size ≤ 50) && decide (l.length ≤ 6))) := by
  intro d
  induction d with
  | zero =>
    intro i hi
    rw [show l.drop i = [] from List.drop_of_length_le (by omega)]
    refine Ev.step (f := fun _ => some (decide (s.size ≤ 50) && decide (l.length ≤ 6))) (fun k => ?_) ⟨0, fun _ _ => rfl⟩
    simp only [spec_NameOk.l0]
    rw [if_neg (by omega)]
    by_cases c : s.size ≤ 50
    · rw [if_pos (by omega), decide_eq_true c, Bool.true_and]
      congr 1
      exact decide_eq_decide.2 (by omega)
    · rw [if_neg (by omega), decide_eq_false c, Bool.false_and]
  | succ d ih =>
    intro i hi
    have hil : i < l.length := by omega
    have w := wrap_succ i l.length hil (by omega)
    rw [List.drop_eq_getElem_cons hil, List.all_cons]
    have hx := hz _ (List.getElem_mem hil)
    refine Ev.step (f := fun k => (spec_LabelOk.f k l[i]).bind fun t => if t = true then spec_NameOk.l0 k s l ((i + 1 : Nat) : Int) else some false) (fun k => ?_) ?_
    · simp only [spec_NameOk.l0]
      rw [if_pos (by omega), if_pos (by omega), rdS_getElem l i hil, w]
    · refine Ev.bind (spec_LabelOk_eq l[i] (by omega)) ?_
      cases h : labelOk l[i] with
      | true =>
        rw [Bool.true_and]
        exact Ev_if rfl (ih (i + 1) (by omega))
      | false => exact Ev_ifn (by decide) ⟨0, fun _ _ => rfl⟩
theorem spec_NameOk_eq (s : ByteArray) (hs : s.size ≤ 1048576) : Ev (fun k => spec_NameOk.f k s) (nameOk s) := by
  unfold spec_NameOk.f nameOk
  have h1 := labelsL_length s
  refine Ev.bind (spec_Labels_eq s hs) ?_
  have := spec_NameOk_loop s (labelsL s) (by omega) (fun x hx => Nat.le_trans (labels_mem_size s x hx) hs) (labelsL s).length 0 (by omega)
  simpa using this
theorem impl_NameOk_1_eq (s : ByteArray) (hs : s.size ≤ 1048576) : Ev (fun k => impl_NameOk_1.f k s) (!labelOk s) := by
  unfold impl_NameOk_1.f
  exact Ev.bind (impl_LabelOk_eq s (by omega)) ⟨0, fun _ _ => rfl⟩
theorem slices_IndexFunc_string_loop (l : List ByteArray) (hn : l.length ≤ 140737488351232) (hz : ∀ x ∈ l, x.size ≤ 1048576) : ∀ (d i : Nat), i + d = l.length →
    ∃ r : Int, Ev (fun k => slices_IndexFunc_string.l0 k l (l.length : Int) (i : Int)) r ∧ decide (r ≥ 0) = !(l.drop i).all labelOk := by
  intro d
  induction d with
  | zero =>
    intro i hi
    rw [show l.drop i = [] from List.drop_of_length_le (by omega)]
    refine ⟨-1, Ev.step (f := fun _ => some (-1)) (fun k => ?_) ⟨0, fun _ _ => rfl⟩, rfl⟩
    simp only [slices_IndexFunc_string.l0]
    rw [if_neg (by omega)]
  | succ d ih =>
    intro i hi
    have hil : i < l.length := by omega
    have w := wrap_succ i l.length hil (by omega)
    rw [List.drop_eq_getElem_cons hil, List.all_cons]
    have hx := hz _ (List.getElem_mem hil)
    obtain ⟨r, hr, hd⟩ := ih (i + 1) (by omega)
    have hs : ∀ k, slices_IndexFunc_string.l0 (k + 1) l (l.length : Int) (i : Int) = (impl_NameOk_1.f k l[i]).bind fun t => if t = true then some (i : Int) else slices_IndexFunc_string.l0 k l (l.length : Int) ((i + 1 : Nat) : Int) := by
      intro k
      simp only [slices_IndexFunc_string.l0]
      rw [if_pos (by omega), if_pos (by omega), if_pos (by omega), rdS_getElem l i hil, w]
    cases h : labelOk l[i] with
    | true =>
      refine ⟨r, Ev.step hs (Ev.bind (impl_NameOk_1_eq l[i] hx) ?_), by rw [hd, Bool.true_and]⟩
      rw [h]
      exact Ev_ifn (by decide) hr
    | false =>
      refine ⟨(i : Int), Ev.step hs (Ev.bind (impl_NameOk_1_eq l[i] hx) ?_), by rw [decide_eq_true (by omega)]; rfl⟩
      rw [h]
      exact Ev_if rfl ⟨0, fun _ _ => rfl⟩
theorem slices_ContainsFunc_string_eq (l : List ByteArray) (hn : l.length ≤ 140737488351232) (hz : ∀ x ∈ l, x.size ≤ 1048576) : Ev (fun k => slices_ContainsFunc_string.f k l) (!l.all labelOk) := by
  unfold slices_ContainsFunc_string.f slices_IndexFunc_string.f
  obtain ⟨r, hr, hd⟩ := slices_IndexFunc_string_loop l hn hz l.length 0 (by omega)
  rw [List.drop_zero] at hd
  rw [← hd]
  exact Ev.bind hr ⟨0, fun _ _ => rfl⟩
theorem impl_NameOk_eq (s : ByteArray) (hs : s.size ≤ 1048576) : Ev (fun k => impl_NameOk.f k s) (nameOk s) := by
  unfold impl_NameOk.f nameOk
  have h1 := labelsL_length s
  rw [impl_Labels_eq s (by omega)]
  simp only [Option.bind_some]
  by_cases c1 : s.size ≤ 50
  · refine Ev_if (by omega) ?_
    rw [decide_eq_true c1, Bool.true_and]
    by_cases c2 : (labelsL s).length ≤ 6
    · refine Ev_if (by omega) ?_
      rw [decide_eq_true c2, Bool.and_true]
      refine Ev.bind (slices_ContainsFunc_string_eq _ (by omega) (fun x hx => Nat.le_trans (labels_mem_size s x hx) hs)) ⟨0, fun _ _ => ?_⟩
      rw [Bool.not_not]
    · refine Ev_ifn (by omega) ?_
      rw [decide_eq_false c2, Bool.and_false]
      exact ⟨0, fun _ _ => rfl⟩
  · refine Ev_ifn (by omega) ?_
    rw [decide_eq_false c1, Bool.false_and, Bool.and_false]
    exact ⟨0, fun _ _ => rfl⟩

end Go.Proofs.YtmcldfjfgmhklaaDoor.Lem
