/- Lemmas on the printed functions, of this session. -/
import Derived.Test.YtmniijljolchjaaY
import Derived.Test.YtmniijljolchjaaPrx3
namespace Go.Proofs.Ytmniijljolchjaa.Lem
open Go.RowKit Go.Proofs.Ytmniijljolchjaa.Pr Go.Proofs.Ytmniijljolchjaa.X Go.Proofs.Ytmniijljolchjaa.Y Go.Proofs.YtmniijljolchjaaW.PrintWords Go.Proofs.YtmniijljolchjaaW.PrintLast Go.Proofs.YtmniijljolchjaaW.PrintMore
set_option linter.unusedVariables false
set_option linter.unusedSimpArgs false
theorem szQuest_eq (s : ByteArray) (hs : s.size ≤ 140737488351232) (n : Int) : ∃ r, laws_szQuest.f s n 1048576 = some r ∧ -1 ≤ r ∧ r ≤ 1048576 := by
  unfold laws_szQuest.f
  rw [wrap_id (x := 1048576 - (s.size : Int)) (by omega) (by omega)]
  by_cases c : 1048576 - (s.size : Int) < 0
  · exact ⟨-1, by rw [if_pos c], by omega, by omega⟩
  · exact ⟨_, by rw [if_neg c], by omega, by omega⟩

end Go.Proofs.Ytmniijljolchjaa.Lem
