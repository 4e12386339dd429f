/- Lemmas on the printed functions, of this session. -/
import Derived.Test.YtmniijljolchjaaY
import Derived.Test.YtmniijljolchjaaLlabel
import Derived.Test.YtmniijljolchjaaLput
import Derived.Test.YtmniijljolchjaaPrx4
import Derived.Test.YtmniijljolchjaaPrx5
import Derived.Test.YtmniijljolchjaaPrx6
namespace Go.Proofs.Ytmniijljolchjaa.Lem
open Go.RowKit Go.Proofs.Ytmniijljolchjaa.Pr Go.Proofs.Ytmniijljolchjaa.X Go.Proofs.Ytmniijljolchjaa.Y Go.Proofs.YtmniijljolchjaaW.PrintWords Go.Proofs.YtmniijljolchjaaW.PrintLast Go.Proofs.YtmniijljolchjaaW.PrintMore
set_option linter.unusedVariables false
set_option linter.unusedSimpArgs false
/-- What PutLabel returns. -/
def putLabel (l : List Int) (s : ByteArray) : List Int := if labelOk s = true then l ++ ((s.size : Int) :: bytesOf s) else l
theorem labelOk_size {s : ByteArray} (h : labelOk s = true) : 1 ≤ s.size ∧ s.size ≤ 12 := by
  unfold labelOk at h
  simp only [Bool.and_eq_true, decide_eq_true_eq] at h
  exact h.2
theorem putLabel_le (l : List Int) (s : ByteArray) : (putLabel l s).length ≤ l.length + 13 := by
  unfold putLabel
  split
  · rename_i h
    have := labelOk_size h
    rw [List.length_append, List.length_cons, bytesOf_length]
    omega
  · omega
theorem spec_PutLabel_eq (l : List Int) (hl : l.length ≤ 140737488351232) (s : ByteArray) (hs : s.size ≤ 140737488355328) : Ev (fun k => spec_PutLabel.f k l s) (putLabel l s) := by
  unfold spec_PutLabel.f putLabel
  simp only [Option.bind_some, List.length_nil, List.nil_append, Nat.zero_add]
  have h1 : l.length < 140737488355328 := by omega
  simp only [if_pos h1]
  refine Ev.bind (spec_LabelOk_eq s hs) ?_
  cases h : labelOk s with
  | true =>
    have hz := labelOk_size h
    refine ⟨0, fun _ _ => ?_⟩
    simp only [if_true, Option.bind_some]
    rw [if_pos (by rw [List.length_append]; simp; omega), List.append_assoc, show ((s.size : Int)) % 256 = (s.size : Int) by omega]
    rfl
  | false => exact ⟨0, fun _ _ => rfl⟩
theorem impl_PutLabel_eq (l : List Int) (hl : l.length ≤ 140737488351232) (s : ByteArray) (hs : s.size ≤ 140737488355328) : Ev (fun k => impl_PutLabel.f k l s) (putLabel l s) := by
  unfold impl_PutLabel.f putLabel
  simp only [clone_bytes_eq l (by omega), Option.bind_some]
  refine Ev.bind (impl_LabelOk_eq s hs) ?_
  have h1 : l.length < 140737488355328 := by omega
  cases h : labelOk s with
  | true =>
    have hz := labelOk_size h
    refine ⟨0, fun _ _ => ?_⟩
    simp only [if_true, if_pos h1, Option.bind_some]
    rw [if_pos (by rw [List.length_append]; simp; omega), List.append_assoc, show ((s.size : Int)) % 256 = (s.size : Int) by omega]
    rfl
  | false => exact ⟨0, fun _ _ => rfl⟩
/-- The folded bytes behind the length byte at i. -/
def labAt (l : List Int) (i : Int) : ByteArray := strOfNums (((l.drop (i.toNat + 1)).take (rd l i).toNat).map foldB)
/-- What GetLabel returns. -/
def getLabel (l : List Int) (i : Int) : ByteArray × Int × Bool :=
  if (0 ≤ i ∧ i < (l.length : Int) ∧ rd l i ≤ 12 ∧ rd l i < (l.length : Int) - i) ∧ labelOk (labAt l i) = true then (labAt l i, i + 1 + rd l i, true) else ((⟨#[]⟩ : ByteArray), 0, false)
theorem labelOk_empty : labelOk (⟨#[]⟩ : ByteArray) = false := by
  unfold labelOk
  simp [show (⟨#[]⟩ : ByteArray).size = 0 from rfl]
theorem cut_label (l : List Int) (i n : Int) (h0 : 0 ≤ i) (hn : 0 ≤ n) : (l.take ((i + 1 + n : Int)).toNat).drop ((i + 1 : Int)).toNat = (l.drop (i.toNat + 1)).take n.toNat := by
  rw [List.drop_take]
  have e1 : (i + 1).toNat = i.toNat + 1 := by omega
  have e2 : (i + 1 + n).toNat - (i + 1).toNat = n.toNat := by omega
  rw [e2, e1]
theorem fold_cut (l : List Int) (hb : Bytes l) (i : Int) : strOfNums ((bytesOf (strOfNums ((l.drop (i.toNat + 1)).take (rd l i).toNat))).map foldB) = labAt l i := by
  rw [bytesOf_strOfNums ((hb.drop _).take _)]
  rfl
theorem strOfNums_cut_size (l : List Int) (hn : l.length ≤ 140737488351232) (a b : Nat) : (strOfNums ((l.drop a).take b)).size ≤ 140737488355328 := by
  rw [strOfNums_size, List.length_take, List.length_drop]
  omega
theorem labAt_size (l : List Int) (hn : l.length ≤ 140737488351232) (i : Int) : (labAt l i).size ≤ 140737488355328 := by
  unfold labAt
  rw [strOfNums_size, List.length_map, List.length_take, List.length_drop]
  omega
theorem impl_GetLabel_eq (l : List Int) (hn : l.length ≤ 140737488351232) (hb : Bytes l) (i : Int) (hi : -9223372036854775808 ≤ i ∧ i ≤ 9223372036854775807) : Ev (fun k => impl_GetLabel.f k l i) (getLabel l i) := by
  have hr := rd_byte hb i
  have fail : ¬ ((0 ≤ i ∧ i < (l.length : Int) ∧ rd l i ≤ 12 ∧ rd l i < (l.length : Int) - i)) → Ev (fun k => impl_GetLabel.j0 k l i true) (getLabel l i) := by
    intro h
    refine Ev.step (f := fun _ => some ((⟨#[]⟩ : ByteArray), 0, false)) (fun k => ?_) ⟨0, fun _ _ => ?_⟩
    · simp only [impl_GetLabel.j0]
      rfl
    · unfold getLabel
      rw [if_neg (fun q => h q.1)]
  unfold impl_GetLabel.f
  by_cases h0 : i < 0
  · simp only [if_pos h0]
    exact fail (by omega)
  · simp only [if_neg h0]
    by_cases h1 : i ≥ (l.length : Int)
    · simp only [if_pos h1]
      exact fail (by omega)
    · have g0 : 0 ≤ i := by omega
      have g1 : i < (l.length : Int) := by omega
      simp only [if_neg h1, if_pos g0, if_pos g1]
      by_cases h2 : rd l i > 12
      · simp only [if_pos h2]
        exact fail (by omega)
      · simp only [if_neg h2, wrap_id (x := rd l i) (by omega) (by omega), wrap_id (x := (l.length : Int) - i) (by omega) (by omega)]
        by_cases h3 : rd l i ≥ (l.length : Int) - i
        · simp only [decide_eq_true h3]
          exact fail (by omega)
        · simp only [decide_eq_false h3]
          refine Ev.step (f := fun k => (impl_LabelOk.f k (labAt l i)).bind fun t => if t = true then some (labAt l i, i + 1 + rd l i, true) else some ((⟨#[]⟩ : ByteArray), 0, false)) (fun k => ?_) (Ev.bind (impl_LabelOk_eq (labAt l i) (labAt_size l hn i)) ?_)
          · simp only [impl_GetLabel.j0]
            rw [if_neg (by decide), if_pos g0, if_pos g1, wrap_id (x := i + 1) (by omega) (by omega), wrap_id (x := rd l i) (by omega) (by omega), wrap_id (x := i + 1 + rd l i) (by omega) (by omega), if_pos (by omega), if_pos (by omega), if_pos (by omega), cut_label l i (rd l i) g0 hr.1]
            unfold impl_Fold.f
            rw [if_pos (strOfNums_cut_size l hn _ _), fold_cut l hb i]
            rfl
          · refine ⟨0, fun _ _ => ?_⟩
            unfold getLabel
            cases h : labelOk (labAt l i) with
            | true =>
              rw [if_pos rfl, if_pos ⟨⟨g0, g1, by omega, by omega⟩, rfl⟩]
            | false =>
              rw [if_neg (by decide), if_neg (fun q => by cases q.2)]
theorem spec_GetLabel_eq (l : List Int) (hn : l.length ≤ 140737488351232) (hb : Bytes l) (i : Int) (hi : -9223372036854775808 ≤ i ∧ i ≤ 9223372036854775807) : Ev (fun k => spec_GetLabel.f k l i) (getLabel l i) := by
  have hr := rd_byte hb i
  have none1 : ∀ n, ¬ ((0 ≤ i ∧ i < (l.length : Int) ∧ rd l i ≤ 12 ∧ rd l i < (l.length : Int) - i) ∧ labelOk (labAt l i) = true) → Ev (fun k => spec_GetLabel.j1 k l i n true) (getLabel l i) := by
    intro n h
    refine Ev.step (f := fun _ => some ((⟨#[]⟩ : ByteArray), 0, false)) (fun k => ?_) ⟨0, fun _ _ => ?_⟩
    · simp only [spec_GetLabel.j1]
      rfl
    · unfold getLabel
      rw [if_neg h]
  have fail : ¬ (0 ≤ i ∧ i < (l.length : Int)) → Ev (fun k => spec_GetLabel.j0 k l i true) (getLabel l i) := by
    intro h
    refine Ev.step (f := fun _ => some ((⟨#[]⟩ : ByteArray), 0, false)) (fun k => ?_) ⟨0, fun _ _ => ?_⟩
    · simp only [spec_GetLabel.j0]
      rfl
    · unfold getLabel
      rw [if_neg (fun q => h ⟨q.1.1, q.1.2.1⟩)]
  unfold spec_GetLabel.f
  by_cases h0 : i < 0
  · simp only [if_pos h0]
    exact fail (by omega)
  · simp only [if_neg h0]
    by_cases h1 : i ≥ (l.length : Int)
    · simp only [decide_eq_true h1]
      exact fail (by omega)
    · have g0 : 0 ≤ i := by omega
      have g1 : i < (l.length : Int) := by omega
      simp only [decide_eq_false h1]
      refine Ev.step (f := fun k => if (decide (1 ≤ rd l i) && decide (rd l i ≤ 12)) = true then spec_GetLabel.j1 k l i (rd l i) (decide (rd l i > (l.length : Int) - i - 1)) else spec_GetLabel.j1 k l i (rd l i) true) (fun k => ?_) ?_
      · simp only [spec_GetLabel.j0]
        rw [if_neg (by decide), if_pos g0, if_pos g1, wrap_id (x := rd l i) (by omega) (by omega), wrap_id (x := (l.length : Int) - i) (by omega) (by omega), wrap_id (x := (l.length : Int) - i - 1) (by omega) (by omega), l1In_dec]
        rfl
      · by_cases h2 : 1 ≤ rd l i ∧ rd l i ≤ 12
        · have e2 : (decide (1 ≤ rd l i) && decide (rd l i ≤ 12)) = true := by simp [h2.1, h2.2]
          simp only [e2, if_true]
          by_cases h3 : rd l i > (l.length : Int) - i - 1
          · simp only [decide_eq_true h3]
            exact none1 _ (by omega)
          · simp only [decide_eq_false h3]
            refine Ev.step (f := fun k => (spec_LabelOk.f k (labAt l i)).bind fun t => if t = true then some (labAt l i, i + 1 + rd l i, true) else some ((⟨#[]⟩ : ByteArray), 0, false)) (fun k => ?_) (Ev.bind (spec_LabelOk_eq (labAt l i) (labAt_size l hn i)) ?_)
            · simp only [spec_GetLabel.j1]
              rw [if_neg (by decide), wrap_id (x := i + 1) (by omega) (by omega), wrap_id (x := i + 1 + rd l i) (by omega) (by omega), if_pos (by omega), if_pos (by omega), if_pos (by omega), cut_label l i (rd l i) g0 hr.1]
              unfold spec_Fold.f
              rw [if_pos (strOfNums_cut_size l hn _ _), fold_cut l hb i]
              rfl
            · refine ⟨0, fun _ _ => ?_⟩
              unfold getLabel
              cases h : labelOk (labAt l i) with
              | true =>
                rw [if_pos rfl, if_pos ⟨⟨g0, g1, by omega, by omega⟩, rfl⟩]
              | false =>
                rw [if_neg (by decide), if_neg (fun q => by cases q.2)]
        · have e2 : (decide (1 ≤ rd l i) && decide (rd l i ≤ 12)) = false := by
            rw [Bool.and_eq_false_iff, decide_eq_false_iff_not, decide_eq_false_iff_not]
            omega
          simp only [e2, if_neg (show ¬ (false = true) by decide)]
          refine none1 _ (fun q => ?_)
          have hz : rd l i = 0 := by omega
          have : labAt l i = (⟨#[]⟩ : ByteArray) := by
            unfold labAt
            rw [hz]
            rfl
          rw [this, labelOk_empty] at q
          cases q.2

end Go.Proofs.Ytmniijljolchjaa.Lem
