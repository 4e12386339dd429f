/- Lemmas on the printed functions, of this session. -/
import Derived.Test.YtmcldfjfgmhklaaDoorY
import Derived.Test.YtmcldfjfgmhklaaDoorLlabel
import Derived.Test.YtmcldfjfgmhklaaDoorLput
import Derived.Test.YtmcldfjfgmhklaaDoorPrx0
import Derived.Test.YtmcldfjfgmhklaaDoorPrx8
namespace Go.Proofs.YtmcldfjfgmhklaaDoor.Lem
open Go.RowKit Go.Proofs.YtmcldfjfgmhklaaDoor.Pr Go.Proofs.YtmcldfjfgmhklaaDoor.X Go.Proofs.YtmcldfjfgmhklaaDoor.Y Go.Proofs.YtmcldfjfgmhklaaDoorW.PrintWords Go.Proofs.YtmcldfjfgmhklaaDoorW.PrintLast Go.Proofs.YtmcldfjfgmhklaaDoorW.PrintMore
set_option linter.unusedVariables false
set_option linter.unusedSimpArgs false
/-- What PutLabel returns. -/
def putLabel (l : List Int) (s : ByteArray) : List Int := if labelOk s = true then l ++ ((s.size : Int) :: bytesOf s) else l
theorem labelOk_size {s : ByteArray} (h : labelOk s = true) : 1 ≤ s.size ∧ s.size ≤ 12 := by
  unfold labelOk at h
  simp only [Bool.and_eq_true, decide_eq_true_eq] at h
  exact h.2
theorem putLabel_le (l : List Int) (s : ByteArray) : (putLabel l s).length ≤ l.length + 13 := by
  unfold putLabel
  split
  · rename_i h
    have := labelOk_size h
    rw [List.length_append, List.length_cons, bytesOf_length]
    omega
  · omega
theorem spec_PutLabel_eq (l : List Int) (hl : l.length ≤ 140737488351232) (s : ByteArray) (hs : s.size ≤ 140737488355328) : Ev (fun k => spec_PutLabel.f k l s) (putLabel l s) := by
  unfold spec_PutLabel.f putLabel
  simp only [Option.bind_some, List.length_nil, List.nil_append, Nat.zero_add]
  have h1 : l.length < 140737488355328 := by omega
  simp only [if_pos h1]
  refine Ev.bind (spec_LabelOk_eq s hs) ?_
  cases h : labelOk s with
  | true =>
    have hz := labelOk_size h
    refine ⟨0, fun _ _ => ?_⟩
    simp only [if_true, Option.bind_some]
    rw [if_pos (by rw [List.length_append]; simp; omega), List.append_assoc, show ((s.size : Int)) % 256 = (s.size : Int) by omega]
    rfl
  | false => exact ⟨0, fun _ _ => rfl⟩
theorem impl_PutLabel_eq (l : List Int) (hl : l.length ≤ 140737488351232) (s : ByteArray) (hs : s.size ≤ 140737488355328) : Ev (fun k => impl_PutLabel.f k l s) (putLabel l s) := by
  unfold impl_PutLabel.f putLabel
  simp only [clone_bytes_eq l (by omega), Option.bind_some]
  refine Ev.bind (impl_LabelOk_eq s hs) ?_
  have h1 : l.length < 140737488355328 := by omega
  cases h : labelOk s with
  | true =>
    have hz := labelOk_size h
    refine ⟨0, fun _ _ => ?_⟩
    simp only [if_true, if_pos h1, Option.bind_some]
    rw [if_pos (by rw [List.length_append]; simp; omega), List.append_assoc, show ((s.size : Int)) % 256 = (s.size : Int) by omega]
    rfl
  | false => exact ⟨0, fun _ _ => rfl⟩
/-- The folded bytes behind the length byte at i. -/
def labAt (l : List Int) (i : Int) : ByteArray := strOfNums (((l.drop (i.toNat + 1)).take (rd l i).toNat).map foldB)
/-- What GetLabel returns. -/
def getLabel (l : List Int) (i : Int) : ByteArray × Int × Bool :=
  if (0 ≤ i ∧ i < (l.length : Int) ∧ rd l i ≤ 12 ∧ rd l i < (l.length : Int) - i) ∧ labelOk (labAt l i) = true then (labAt l i, i + 1 + rd l i, true) else ((⟨#[]⟩ : ByteArray), 0, false)
theorem labelOk_empty : labelOk (⟨#[]⟩ : ByteArray) = false := by
  unfold labelOk
  simp [show (⟨#[]⟩ : ByteArray).size = 0 from rfl]
theorem cut_label (l : List Int) (i n : Int) (h0 : 0 ≤ i) (hn : 0 ≤ n) : (l.take ((i + 1 + n : Int)).toNat).drop ((i + 1 : Int)).toNat = (l.drop (i.toNat + 1)).take n.toNat := by
  rw [List.drop_take]
  have e1 : (i + 1).toNat = i.toNat + 1 := by omega
  have e2 : (i + 1 + n).toNat - (i + 1).toNat = n.toNat := by omega
  rw [e2, e1]
theorem fold_cut (l : List Int) (hb : Bytes l) (i : Int) : strOfNums ((bytesOf (strOfNums ((l.drop (i.toNat + 1)).take (rd l i).toNat))).map foldB) = labAt l i := by
  rw [bytesOf_strOfNums ((hb.drop _).take _)]
  rfl
theorem strOfNums_cut_size (l : List Int) (hn : l.length ≤ 140737488351232) (a b : Nat) : (strOfNums ((l.drop a).take b)).size ≤ 140737488355328 := by
  rw [strOfNums_size, List.length_take, List.length_drop]
  omega
theorem labAt_size (l : List Int) (hn : l.length ≤ 140737488351232) (i : Int) : (labAt l i).size ≤ 140737488355328 := by
  unfold labAt
  rw [strOfNums_size, List.length_map, List.length_take, List.length_drop]
  omega

end Go.Proofs.YtmcldfjfgmhklaaDoor.Lem
