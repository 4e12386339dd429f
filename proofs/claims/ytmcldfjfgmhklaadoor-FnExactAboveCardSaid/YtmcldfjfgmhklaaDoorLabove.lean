/- Lemmas on the printed functions, of this session. -/
import Derived.Test.YtmcldfjfgmhklaaDoorY
import Derived.Test.YtmcldfjfgmhklaaDoorLjoins
import Derived.Test.YtmcldfjfgmhklaaDoorLlabels
import Derived.Test.YtmcldfjfgmhklaaDoorLlessrec
import Derived.Test.YtmcldfjfgmhklaaDoorLstrs
import Derived.Test.YtmcldfjfgmhklaaDoorLup
import Derived.Test.YtmcldfjfgmhklaaDoorPrx0
import Derived.Test.YtmcldfjfgmhklaaDoorPrx16
import Derived.Test.YtmcldfjfgmhklaaDoorPrx17
namespace Go.Proofs.YtmcldfjfgmhklaaDoor.Lem
open Go.RowKit Go.Proofs.YtmcldfjfgmhklaaDoor.Pr Go.Proofs.YtmcldfjfgmhklaaDoor.X Go.Proofs.YtmcldfjfgmhklaaDoor.Y Go.Proofs.YtmcldfjfgmhklaaDoorW.PrintWords Go.Proofs.YtmcldfjfgmhklaaDoorW.PrintLast Go.Proofs.YtmcldfjfgmhklaaDoorW.PrintMore
set_option linter.unusedVariables false
set_option linter.unusedSimpArgs false
/-- A name and all above it, given its labels. -/
def aboveL : List ByteArray → List ByteArray
  | [] => [(⟨#[]⟩ : ByteArray)]
  | x :: l => joinS (x :: l) :: aboveL l
theorem aboveL_length : ∀ l : List ByteArray, (aboveL l).length = l.length + 1
  | [] => rfl
  | x :: l => by rw [aboveL, List.length_cons, aboveL_length l, List.length_cons]
theorem aboveL_drop (ls : List ByteArray) (i : Nat) (h : i < ls.length) : aboveL (ls.drop i) = joinS (ls.drop i) :: aboveL (ls.drop (i + 1)) := by
  rw [List.drop_eq_getElem_cons h, aboveL]
theorem spec_Above_loop (ls : List ByteArray) (hn : ls.length ≤ 1048577) (hz : szSs ls ≤ 1048576) : ∀ (d i : Nat) (acc : List ByteArray), i + d = ls.length → acc.length ≤ i + 1 →
    Ev (fun k => spec_Above.l0 k acc ls (i : Int)) (acc ++ aboveL (ls.drop i)) := by
  intro d
  induction d with
  | zero =>
    intro i acc hi ha
    have w := wrap_succ i (i + 1) (by omega) (by omega)
    have e : ls.drop i = [] := List.drop_of_length_le (by omega)
    rw [e]
    refine Ev.step (f := fun k => (spec_JoinLabels.f k (ls.drop i)).bind fun t => spec_Above.l0 k (acc ++ [t]) ls ((i + 1 : Nat) : Int)) (fun k => ?_) (Ev.bind (spec_JoinLabels_eq _ (by rw [e]; simp [szSs])) ?_)
    · simp only [spec_Above.l0]
      rw [if_pos (by omega), if_pos (by omega), w, Int.toNat_natCast]
      congr 1
      funext t
      rw [if_pos (by omega)]
    · rw [e]
      refine Ev.step (f := fun _ => some (acc ++ [joinS []])) (fun k => ?_) ⟨0, fun _ _ => rfl⟩
      simp only [spec_Above.l0]
      rw [if_neg (by omega)]
  | succ d ih =>
    intro i acc hi ha
    have w := wrap_succ i (i + 1) (by omega) (by omega)
    have hz' := szSs_drop_le ls i
    rw [aboveL_drop ls i (by omega)]
    refine Ev.step (f := fun k => (spec_JoinLabels.f k (ls.drop i)).bind fun t => spec_Above.l0 k (acc ++ [t]) ls ((i + 1 : Nat) : Int)) (fun k => ?_) (Ev.bind (spec_JoinLabels_eq _ (by rw [List.length_drop]; omega)) ?_)
    · simp only [spec_Above.l0]
      rw [if_pos (by omega), if_pos (by omega), w, Int.toNat_natCast]
      congr 1
      funext t
      rw [if_pos (by omega)]
    · have := ih (i + 1) (acc ++ [joinS (ls.drop i)]) (by omega) (by rw [List.length_append]; simp; omega)
      simpa using this
theorem impl_Above_loop (ls : List ByteArray) (hn : ls.length ≤ 1048577) (hz : szSs ls ≤ 1048576) : ∀ (d i : Nat) (acc : List ByteArray), i + d = ls.length → acc.length ≤ i →
    Ev (fun k => impl_Above.l0 k acc ls (ls.length : Int) (i : Int)) (acc ++ aboveL (ls.drop i)) := by
  intro d
  induction d with
  | zero =>
    intro i acc hi ha
    rw [show ls.drop i = [] from List.drop_of_length_le (by omega)]
    refine Ev.step (f := fun _ => some (acc ++ [(⟨#[]⟩ : ByteArray)])) (fun k => ?_) ⟨0, fun _ _ => rfl⟩
    simp only [impl_Above.l0]
    rw [if_neg (by omega), if_pos (by omega)]
  | succ d ih =>
    intro i acc hi ha
    have w := wrap_succ i (i + 1) (by omega) (by omega)
    have hz' := szSs_drop_le ls i
    rw [aboveL_drop ls i (by omega)]
    refine Ev.step (f := fun k => impl_Above.l0 k (acc ++ [joinS (ls.drop i)]) ls (ls.length : Int) ((i + 1 : Nat) : Int)) (fun k => ?_) ?_
    · simp only [impl_Above.l0]
      rw [if_pos (by omega), if_pos (by omega), if_pos (by omega), w, Int.toNat_natCast, impl_JoinLabels_eq _ (by rw [List.length_drop]; omega), Option.bind_some, if_pos (by omega)]
    · have := ih (i + 1) (acc ++ [joinS (ls.drop i)]) (by omega) (by rw [List.length_append]; simp; omega)
      simpa using this
/-- What Above returns. -/
def above (s : ByteArray) : List ByteArray := aboveL (labelsL s)
theorem above_length (s : ByteArray) : (above s).length = (labelsL s).length + 1 := aboveL_length _
theorem spec_Above_eq (s : ByteArray) (hs : s.size ≤ 1048576) : Ev (fun k => spec_Above.f k s) (above s) := by
  have h1 := labelsL_length s
  have h2 := labelsL_size s
  unfold spec_Above.f above
  refine Ev.bind (spec_Labels_eq s hs) ?_
  cases hl : labelsL s with
  | nil =>
    have e := join_labels s
    rw [hl] at e
    refine Ev.step (f := fun _ => some [s]) (fun k => ?_) ⟨0, fun _ _ => by rw [← e]; rfl⟩
    simp only [spec_Above.l0]
    rw [if_neg (by simp)]
  | cons x l =>
    have e := join_labels s
    rw [hl] at e h1 h2
    have := spec_Above_loop (x :: l) (by omega) (by omega) l.length 1 [s] (by simp; omega) (by simp)
    rw [aboveL]
    rw [e]
    simpa using this
theorem impl_Above_eq (s : ByteArray) (hs : s.size ≤ 1048576) : Ev (fun k => impl_Above.f k s) (above s) := by
  have h1 := labelsL_length s
  have h2 := labelsL_size s
  unfold impl_Above.f above
  rw [impl_Labels_eq s (by omega)]
  simp only [Option.bind_some]
  have := impl_Above_loop (labelsL s) (by omega) (by omega) (labelsL s).length 0 [] (by omega) (by simp)
  simpa using this

end Go.Proofs.YtmcldfjfgmhklaaDoor.Lem
