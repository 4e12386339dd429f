/- Lemmas on the printed functions, of this session. -/
import Derived.Test.YtmcldfjfgmhklaaDoorY
import Derived.Test.YtmcldfjfgmhklaaDoorLev
import Derived.Test.YtmcldfjfgmhklaaDoorLglabel
import Derived.Test.YtmcldfjfgmhklaaDoorLlabel
import Derived.Test.YtmcldfjfgmhklaaDoorLlabels
import Derived.Test.YtmcldfjfgmhklaaDoorLname
import Derived.Test.YtmcldfjfgmhklaaDoorLput
import Derived.Test.YtmcldfjfgmhklaaDoorLstrs
import Derived.Test.YtmcldfjfgmhklaaDoorPrx0
import Derived.Test.YtmcldfjfgmhklaaDoorPrx8
namespace Go.Proofs.YtmcldfjfgmhklaaDoor.Lem
open Go.RowKit Go.Proofs.YtmcldfjfgmhklaaDoor.Pr Go.Proofs.YtmcldfjfgmhklaaDoor.X Go.Proofs.YtmcldfjfgmhklaaDoor.Y Go.Proofs.YtmcldfjfgmhklaaDoorW.PrintWords Go.Proofs.YtmcldfjfgmhklaaDoorW.PrintLast Go.Proofs.YtmcldfjfgmhklaaDoorW.PrintMore
set_option linter.unusedVariables false
set_option linter.unusedSimpArgs false
/-- A label as bytes: its length, and itself. -/
def labW (x : ByteArray) : List Int := (x.size : Int) :: bytesOf x
def wire : List ByteArray → List Int
  | [] => []
  | x :: l => labW x ++ wire l
theorem putLabel_ok (l : List Int) (x : ByteArray) (h : labelOk x = true) : putLabel l x = l ++ labW x := by
  unfold putLabel labW
  rw [if_pos h]
/-- What PutPlain returns. -/
def putPlain (l : List Int) (s : ByteArray) : List Int := if nameOk s = true then l ++ (wire (labelsL s) ++ [0]) else l
theorem nameOk_all {s : ByteArray} (h : nameOk s = true) : (∀ x ∈ labelsL s, labelOk x = true) ∧ s.size ≤ 50 ∧ (labelsL s).length ≤ 6 := by
  unfold nameOk at h
  simp only [Bool.and_eq_true, decide_eq_true_eq] at h
  exact ⟨fun x hx => List.all_eq_true.1 h.1 x hx, h.2.1, h.2.2⟩
theorem spec_PutPlain_loop (ls : List ByteArray) (hn : ls.length ≤ 140737488351232) (hall : ∀ x ∈ ls, labelOk x = true) : ∀ (d i : Nat) (out : List Int), i + d = ls.length → out.length + 13 * d ≤ 140737488351232 →
    Ev (fun k => spec_PutPlain.l0 k out ls (i : Int)) (out ++ (wire (ls.drop i) ++ [0])) := by
  intro d
  induction d with
  | zero =>
    intro i out hi ho
    rw [show ls.drop i = [] from List.drop_of_length_le (by omega)]
    refine Ev.step (f := fun _ => some (out ++ [0])) (fun k => ?_) ⟨0, fun _ _ => rfl⟩
    simp only [spec_PutPlain.l0]
    rw [if_neg (by omega), if_pos (by omega)]
  | succ d ih =>
    intro i out hi ho
    have hil : i < ls.length := by omega
    have w := wrap_succ i ls.length hil (by omega)
    have hx := hall _ (List.getElem_mem hil)
    have hs := labelOk_size hx
    have hp := putLabel_le out ls[i]
    rw [List.drop_eq_getElem_cons hil, wire]
    have e := ih (i + 1) (putLabel out ls[i]) (by omega) (by omega)
    rw [putLabel_ok out _ hx] at e hp
    refine Ev.step (f := fun k => (spec_PutLabel.f k out ls[i]).bind fun t => spec_PutPlain.l0 k t ls ((i + 1 : Nat) : Int)) (fun k => ?_) (Ev.bind (spec_PutLabel_eq out (by omega) ls[i] (by omega)) ?_)
    · simp only [spec_PutPlain.l0]
      rw [if_pos (by omega), if_pos (by omega), rdS_getElem ls i hil, w]
    · rw [putLabel_ok out _ hx]
      simpa using e
theorem impl_PutPlain_loop (ls : List ByteArray) (hn : ls.length ≤ 140737488351232) (hall : ∀ x ∈ ls, labelOk x = true) : ∀ (d i : Nat) (out : List Int), i + d = ls.length → out.length + 13 * d ≤ 140737488351232 →
    Ev (fun k => impl_PutPlain.l0 k out ls (ls.length : Int) (i : Int)) (out ++ (wire (ls.drop i) ++ [0])) := by
  intro d
  induction d with
  | zero =>
    intro i out hi ho
    rw [show ls.drop i = [] from List.drop_of_length_le (by omega)]
    refine Ev.step (f := fun _ => some (out ++ [0])) (fun k => ?_) ⟨0, fun _ _ => rfl⟩
    simp only [impl_PutPlain.l0]
    rw [if_neg (by omega), if_pos (by omega)]
  | succ d ih =>
    intro i out hi ho
    have hil : i < ls.length := by omega
    have w := wrap_succ i ls.length hil (by omega)
    have hx := hall _ (List.getElem_mem hil)
    have hs := labelOk_size hx
    have hp := putLabel_le out ls[i]
    rw [List.drop_eq_getElem_cons hil, wire]
    have e := ih (i + 1) (putLabel out ls[i]) (by omega) (by omega)
    rw [putLabel_ok out _ hx] at e hp
    refine Ev.step (f := fun k => (impl_PutLabel.f k out ls[i]).bind fun t => impl_PutPlain.l0 k t ls (ls.length : Int) ((i + 1 : Nat) : Int)) (fun k => ?_) (Ev.bind (impl_PutLabel_eq out (by omega) ls[i] (by omega)) ?_)
    · simp only [impl_PutPlain.l0]
      rw [if_pos (by omega), if_pos (by omega), if_pos (by omega), rdS_getElem ls i hil, w]
    · rw [putLabel_ok out _ hx]
      simpa using e
theorem spec_PutPlain_eq (l : List Int) (hl : l.length ≤ 140737488350000) (s : ByteArray) (hs : s.size ≤ 1048576) : Ev (fun k => spec_PutPlain.f k l s) (putPlain l s) := by
  unfold spec_PutPlain.f putPlain
  simp only [Option.bind_some, List.length_nil, List.nil_append, Nat.zero_add]
  refine Ev_if (show l.length < 140737488355328 by omega) (Ev.bind (spec_NameOk_eq s hs) ?_)
  cases h : nameOk s with
  | false => exact Ev_ifn (by decide) ⟨0, fun _ _ => rfl⟩
  | true =>
    obtain ⟨hall, _, hn⟩ := nameOk_all h
    refine Ev_if rfl (Ev.bind (spec_Labels_eq s hs) ?_)
    rw [if_pos rfl]
    have := spec_PutPlain_loop (labelsL s) (by omega) hall (labelsL s).length 0 l (by omega) (by omega)
    simpa using this
theorem impl_PutPlain_eq (l : List Int) (hl : l.length ≤ 140737488350000) (s : ByteArray) (hs : s.size ≤ 1048576) : Ev (fun k => impl_PutPlain.f k l s) (putPlain l s) := by
  unfold impl_PutPlain.f putPlain
  rw [clone_bytes_eq l (by omega), impl_Labels_eq s (by omega)]
  simp only [Option.bind_some]
  refine Ev.bind (impl_NameOk_eq s hs) ?_
  cases h : nameOk s with
  | false => exact Ev_ifn (by decide) ⟨0, fun _ _ => rfl⟩
  | true =>
    obtain ⟨hall, _, hn⟩ := nameOk_all h
    refine Ev_if rfl ?_
    rw [if_pos rfl]
    have := impl_PutPlain_loop (labelsL s) (by omega) hall (labelsL s).length 0 l (by omega) (by omega)
    simpa using this
theorem wire_le : ∀ (ls : List ByteArray), (∀ x ∈ ls, labelOk x = true) → (wire ls).length ≤ 13 * ls.length
  | [], _ => Nat.zero_le _
  | x :: ls, h => by
    have h1 := labelOk_size (h x List.mem_cons_self)
    have h2 := wire_le ls (fun y hy => h y (List.mem_cons_of_mem _ hy))
    have h3 := bytesOf_length x
    unfold wire labW
    simp only [List.length_append, List.length_cons]
    omega
theorem putPlain_le (l : List Int) (s : ByteArray) : (putPlain l s).length ≤ l.length + 79 := by
  unfold putPlain
  split
  · rename_i h
    obtain ⟨hall, _, hn⟩ := nameOk_all h
    have := wire_le _ hall
    simp only [List.length_append, List.length_cons, List.length_nil]
    omega
  · omega

end Go.Proofs.YtmcldfjfgmhklaaDoor.Lem
