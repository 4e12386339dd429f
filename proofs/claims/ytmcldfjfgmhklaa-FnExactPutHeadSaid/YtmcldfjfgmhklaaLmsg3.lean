/- Lemmas on the printed functions, of this session. -/
import Derived.Test.YtmcldfjfgmhklaaY
import Derived.Test.YtmcldfjfgmhklaaPrx0
import Derived.Test.YtmcldfjfgmhklaaPrx1
namespace Go.Proofs.Ytmcldfjfgmhklaa.Lem
open Go.RowKit Go.Proofs.Ytmcldfjfgmhklaa.Pr Go.Proofs.Ytmcldfjfgmhklaa.X Go.Proofs.Ytmcldfjfgmhklaa.Y Go.Proofs.YtmcldfjfgmhklaaW.PrintWords Go.Proofs.YtmcldfjfgmhklaaW.PrintLast Go.Proofs.YtmcldfjfgmhklaaW.PrintMore
set_option linter.unusedVariables false
set_option linter.unusedSimpArgs false
theorem szQuest_eq (s : ByteArray) (hs : s.size ≤ 140737488351232) (n : Int) : ∃ r, laws_szQuest.f s n 1048576 = some r ∧ -1 ≤ r ∧ r ≤ 1048576 := by
  unfold laws_szQuest.f
  rw [wrap_id (x := 1048576 - (s.size : Int)) (by omega) (by omega)]
  by_cases c : 1048576 - (s.size : Int) < 0
  · exact ⟨-1, by rw [if_pos c], by omega, by omega⟩
  · exact ⟨_, by rw [if_neg c], by omega, by omega⟩

end Go.Proofs.Ytmcldfjfgmhklaa.Lem
