/- Lemmas on the printed functions, of this session. -/
import Derived.Test.YtmcldfjfgmhklaaDoorY
import Derived.Test.YtmcldfjfgmhklaaDoorLlabels
import Derived.Test.YtmcldfjfgmhklaaDoorLstrs
import Derived.Test.YtmcldfjfgmhklaaDoorPrx0
namespace Go.Proofs.YtmcldfjfgmhklaaDoor.Lem
open Go.RowKit Go.Proofs.YtmcldfjfgmhklaaDoor.Pr Go.Proofs.YtmcldfjfgmhklaaDoor.X Go.Proofs.YtmcldfjfgmhklaaDoor.Y Go.Proofs.YtmcldfjfgmhklaaDoorW.PrintWords Go.Proofs.YtmcldfjfgmhklaaDoorW.PrintLast Go.Proofs.YtmcldfjfgmhklaaDoorW.PrintMore
set_option linter.unusedVariables false
set_option linter.unusedSimpArgs false
theorem szSs_cons (x : ByteArray) (l : List ByteArray) : szSs (x :: l) = x.size + szSs l := by
  unfold szSs
  rw [List.map_cons, List.sum_cons]
theorem szSs_nil : szSs [] = 0 := rfl
theorem cutA_size : ∀ (t acc : List UInt8), szSs ((cutA acc t).map mkB) ≤ acc.length + t.length
  | [], acc => by
    have e : (mkB acc).size = acc.length := rfl
    simp only [cutA, List.map_cons, List.map_nil, szSs_cons, szSs_nil, e, List.length_nil]
    omega
  | c :: t, acc => by
    unfold cutA
    split
    · have := cutA_size t []
      have e : (mkB acc).size = acc.length := rfl
      simp only [List.length_nil] at this
      simp only [List.map_cons, szSs_cons, e, List.length_cons]
      omega
    · have := cutA_size t (acc ++ [c])
      simp only [List.length_append, List.length_cons, List.length_nil] at this ⊢
      omega
theorem labelsL_size (s : ByteArray) : szSs (labelsL s) ≤ s.size := by
  unfold labelsL
  split
  · rw [szSs_nil]
    omega
  · have := cutA_size s.data.toList []
    rw [size_data]
    simpa using this
theorem szSs_drop_le : ∀ (l : List ByteArray) (i : Nat), szSs (l.drop i) ≤ szSs l
  | [], i => by simp
  | x :: l, 0 => Nat.le_refl _
  | x :: l, i + 1 => by
    have := szSs_drop_le l i
    simp only [List.drop_succ_cons, szSs_cons]
    omega

end Go.Proofs.YtmcldfjfgmhklaaDoor.Lem
