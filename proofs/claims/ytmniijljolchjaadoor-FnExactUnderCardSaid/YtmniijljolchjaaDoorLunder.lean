/- Lemmas on the printed functions, of this session. -/
import Derived.Test.YtmniijljolchjaaDoorY
import Derived.Test.YtmniijljolchjaaDoorLlabels
import Derived.Test.YtmniijljolchjaaDoorPrx0
import Derived.Test.YtmniijljolchjaaDoorPrx3
namespace Go.Proofs.YtmniijljolchjaaDoor.Lem
open Go.RowKit Go.Proofs.YtmniijljolchjaaDoor.Pr Go.Proofs.YtmniijljolchjaaDoor.X Go.Proofs.YtmniijljolchjaaDoor.Y Go.Proofs.YtmniijljolchjaaDoorW.PrintWords Go.Proofs.YtmniijljolchjaaDoorW.PrintLast Go.Proofs.YtmniijljolchjaaDoorW.PrintMore
set_option linter.unusedVariables false
set_option linter.unusedSimpArgs false
/-- Whether y is the end of x. -/
def underL (x y : List ByteArray) : Bool := decide (y.length ≤ x.length) && decide (x.drop (x.length - y.length) = y)
theorem rdB_getElem (l : List ByteArray) (i : Nat) (h : i < l.length) : rdOf ByteArray.empty l (i : Int) = l[i] := by
  simp [rdOf, List.getD_eq_getElem?_getD, h]
theorem take_succ_iff {α : Type} [DecidableEq α] (a b : List α) (i : Nat) (ha : i < a.length) (hb : i < b.length) : a.take (i + 1) = b.take (i + 1) ↔ a.take i = b.take i ∧ a[i] = b[i] := by
  rw [← List.take_append_getElem ha, ← List.take_append_getElem hb]
  constructor
  · intro h
    have hl : (a.take i).length = (b.take i).length := by rw [List.length_take, List.length_take]; omega
    have := List.append_inj h hl
    exact ⟨this.1, by simpa using this.2⟩
  · rintro ⟨h1, h2⟩
    rw [h1, h2]
theorem spec_Under_loop (x y : List ByteArray) (hxy : y.length ≤ x.length) (hn : x.length ≤ 140737488351232) : ∀ (d i : Nat), i + d = y.length + 1 → 1 ≤ i →
    Ev (fun k => spec_Under.l0 k x y (i : Int)) (decide ((x.drop (x.length - y.length)).take d = y.take d)) := by
  have hl : (x.drop (x.length - y.length)).length = y.length := by rw [List.length_drop]; omega
  intro d
  induction d with
  | zero =>
    intro i hi h1
    refine Ev.step (f := fun _ => some true) (fun k => ?_) ⟨0, fun _ _ => rfl⟩
    simp only [spec_Under.l0]
    rw [if_neg (by omega)]
  | succ d ih =>
    intro i hi h1
    have w1 : wrap64 ((x.length : Int) - (i : Int)) = ((x.length - y.length + d : Nat) : Int) := by rw [wrap_id (by omega) (by omega)]; omega
    have w2 : wrap64 ((y.length : Int) - (i : Int)) = (d : Int) := by rw [wrap_id (by omega) (by omega)]; omega
    have w3 : wrap64 ((i : Int) + 1) = ((i + 1 : Nat) : Int) := wrap_succ i (i + 1) (by omega) (by omega)
    have hx : x.length - y.length + d < x.length := by omega
    have hy : d < y.length := by omega
    have ht := take_succ_iff (x.drop (x.length - y.length)) y d (by omega) hy
    have he : (x.drop (x.length - y.length))[d]'(by omega) = x[x.length - y.length + d] := by rw [List.getElem_drop]
    rw [he] at ht
    by_cases c : x[x.length - y.length + d] = y[d]
    · have e : decide ((x.drop (x.length - y.length)).take (d + 1) = y.take (d + 1)) = decide ((x.drop (x.length - y.length)).take d = y.take d) := by simp [ht, c]
      rw [e]
      refine Ev.step (f := fun k => spec_Under.l0 k x y ((i + 1 : Nat) : Int)) (fun k => ?_) (ih (i + 1) (by omega) (by omega))
      simp only [spec_Under.l0]
      rw [if_pos (by omega), w1, w2, if_pos (by omega), if_pos (by omega), if_pos (by omega), if_pos (by omega), rdB_getElem x _ hx, rdB_getElem y d hy, if_pos (by rw [c]), w3]
    · have e : decide ((x.drop (x.length - y.length)).take (d + 1) = y.take (d + 1)) = false := by simp [ht, c]
      rw [e]
      refine Ev.step (f := fun _ => some false) (fun k => ?_) ⟨0, fun _ _ => rfl⟩
      simp only [spec_Under.l0]
      rw [if_pos (by omega), w1, w2, if_pos (by omega), if_pos (by omega), if_pos (by omega), if_pos (by omega), rdB_getElem x _ hx, rdB_getElem y d hy, if_neg (fun h => c (toList_inj.1 h))]
theorem slices_Equal_string_loop (a b : List ByteArray) (hab : a.length = b.length) (hn : a.length ≤ 140737488351232) : ∀ (d i : Nat), i + d = a.length →
    Ev (fun k => slices_Equal_string.l0 k a b (a.length : Int) (i : Int)) (decide (a.drop i = b.drop i)) := by
  intro d
  induction d with
  | zero =>
    intro i hi
    rw [List.drop_of_length_le (by omega), List.drop_of_length_le (by omega)]
    refine Ev.step (f := fun _ => some true) (fun k => ?_) ⟨0, fun _ _ => rfl⟩
    simp only [slices_Equal_string.l0]
    rw [if_neg (by omega)]
  | succ d ih =>
    intro i hi
    have ha : i < a.length := by omega
    have hb : i < b.length := by omega
    have w3 : wrap64 ((i : Int) + 1) = ((i + 1 : Nat) : Int) := wrap_succ i a.length (by omega) (by omega)
    rw [List.drop_eq_getElem_cons ha, List.drop_eq_getElem_cons hb]
    by_cases c : a[i] = b[i]
    · have e : decide (a[i] :: a.drop (i + 1) = b[i] :: b.drop (i + 1)) = decide (a.drop (i + 1) = b.drop (i + 1)) := decide_eq_decide.2 ⟨fun h => (List.cons.inj h).2, fun h => by rw [h, c]⟩
      rw [e]
      refine Ev.step (f := fun k => slices_Equal_string.l0 k a b (a.length : Int) ((i + 1 : Nat) : Int)) (fun k => ?_) (ih (i + 1) (by omega))
      simp only [slices_Equal_string.l0]
      rw [if_pos (by omega), if_pos (by omega), if_pos (by omega), if_pos (by omega), rdB_getElem a i ha, rdB_getElem b i hb, if_pos (by rw [c]), w3]
    · have e : decide (a[i] :: a.drop (i + 1) = b[i] :: b.drop (i + 1)) = false := decide_eq_false (fun h => c (List.cons.inj h).1)
      rw [e]
      refine Ev.step (f := fun _ => some false) (fun k => ?_) ⟨0, fun _ _ => rfl⟩
      simp only [slices_Equal_string.l0]
      rw [if_pos (by omega), if_pos (by omega), if_pos (by omega), if_pos (by omega), rdB_getElem a i ha, rdB_getElem b i hb, if_neg (fun h => c (toList_inj.1 h))]
theorem slices_Equal_string_eq (a b : List ByteArray) (hn : a.length ≤ 140737488351232) : Ev (fun k => slices_Equal_string.f k a b) (decide (a = b)) := by
  unfold slices_Equal_string.f
  by_cases h : a.length = b.length
  · have h' : (a.length : Int) = (b.length : Int) := by omega
    simp only [if_pos h']
    have := slices_Equal_string_loop a b h hn a.length 0 (by omega)
    simpa using this
  · have h' : ¬ (a.length : Int) = (b.length : Int) := by omega
    simp only [if_neg h']
    have e : decide (a = b) = false := decide_eq_false (fun e => h (by rw [e]))
    rw [e]
    exact ⟨0, fun _ _ => rfl⟩
theorem spec_Under_eq (a b : ByteArray) (ha : a.size ≤ 1048576) (hb : b.size ≤ 1048576) : Ev (fun k => spec_Under.f k a b) (underL (labelsL a) (labelsL b)) := by
  have h1 := labelsL_length a
  have h2 := labelsL_length b
  unfold spec_Under.f
  refine Ev.bind (spec_Labels_eq a ha) (Ev.bind (spec_Labels_eq b hb) ?_)
  generalize labelsL a = x at h1 ⊢
  generalize labelsL b = y at h2 ⊢
  by_cases c : y.length ≤ x.length
  · have c' : ¬ (y.length : Int) > (x.length : Int) := by omega
    simp only [if_neg c']
    have := spec_Under_loop x y c (by omega) y.length 1 (by omega) (by omega)
    rw [List.take_of_length_le (show (x.drop (x.length - y.length)).length ≤ y.length by rw [List.length_drop]; omega), List.take_length] at this
    unfold underL
    rw [decide_eq_true c, Bool.true_and]
    exact this
  · have c' : (y.length : Int) > (x.length : Int) := by omega
    simp only [if_pos c']
    unfold underL
    rw [decide_eq_false c, Bool.false_and]
    exact ⟨0, fun _ _ => rfl⟩
theorem impl_Under_eq (a b : ByteArray) (ha : a.size ≤ 1048576) (hb : b.size ≤ 1048576) : Ev (fun k => impl_Under.f k a b) (underL (labelsL a) (labelsL b)) := by
  have h1 := labelsL_length a
  have h2 := labelsL_length b
  unfold impl_Under.f
  rw [impl_Labels_eq a (by omega), impl_Labels_eq b (by omega)]
  simp only [Option.bind_some]
  generalize labelsL a = x at h1 ⊢
  generalize labelsL b = y at h2 ⊢
  by_cases c : y.length ≤ x.length
  · have c' : (x.length : Int) ≥ (y.length : Int) := by omega
    have w : wrap64 ((x.length : Int) - (y.length : Int)) = ((x.length - y.length : Nat) : Int) := by rw [wrap_id (by omega) (by omega)]; omega
    have p1 : (0 : Int) ≤ ((x.length - y.length : Nat) : Int) := by omega
    have p2 : ((x.length - y.length : Nat) : Int) ≤ (x.length : Int) := by omega
    simp only [if_pos c', w, if_pos p1, if_pos p2, Int.toNat_natCast]
    unfold underL
    rw [decide_eq_true c, Bool.true_and]
    exact Ev.bind (slices_Equal_string_eq _ y (by rw [List.length_drop]; omega)) (Ev.now _)
  · have c' : ¬ (x.length : Int) ≥ (y.length : Int) := by omega
    simp only [if_neg c']
    unfold underL
    rw [decide_eq_false c, Bool.false_and]
    exact ⟨0, fun _ _ => rfl⟩

end Go.Proofs.YtmniijljolchjaaDoor.Lem
