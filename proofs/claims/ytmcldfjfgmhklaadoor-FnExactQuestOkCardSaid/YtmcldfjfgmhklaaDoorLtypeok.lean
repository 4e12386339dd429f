/- Lemmas on the printed functions, of this session. -/
import Derived.Test.YtmcldfjfgmhklaaDoorY
import Derived.Test.YtmcldfjfgmhklaaDoorPrx0
import Derived.Test.YtmcldfjfgmhklaaDoorPrx11
namespace Go.Proofs.YtmcldfjfgmhklaaDoor.Lem
open Go.RowKit Go.Proofs.YtmcldfjfgmhklaaDoor.Pr Go.Proofs.YtmcldfjfgmhklaaDoor.X Go.Proofs.YtmcldfjfgmhklaaDoor.Y Go.Proofs.YtmcldfjfgmhklaaDoorW.PrintWords Go.Proofs.YtmcldfjfgmhklaaDoorW.PrintLast Go.Proofs.YtmcldfjfgmhklaaDoorW.PrintMore
set_option linter.unusedVariables false
set_option linter.unusedSimpArgs false
/-- What TypeOk answers. -/
def typeOk (n : Int) : Bool := decide (n = 1 ∨ n = 2 ∨ n = 5 ∨ n = 6 ∨ n = 16)
theorem spec_TypeOk_eq (n : Int) : spec_TypeOk.f n = some (typeOk n) := by
  unfold spec_TypeOk.f typeOk
  by_cases h1 : n = 1
  · simp [h1]
  · by_cases h2 : n = 2
    · simp [h2]
    · by_cases h5 : n = 5
      · simp [h5]
      · by_cases h6 : n = 6
        · simp [h6]
        · simp [h1, h2, h5, h6]
          by_cases h16 : n = 16 <;> simp [h16]
theorem impl_TypeOk_eq (n : Int) : impl_TypeOk.f n = some (typeOk n) := by
  unfold impl_TypeOk.f impl_TypeText.f typeOk
  by_cases h1 : n = 1
  · simp [h1]
  · by_cases h2 : n = 2
    · simp [h2]
    · by_cases h5 : n = 5
      · simp [h5]
      · by_cases h6 : n = 6
        · simp [h6]
        · by_cases h16 : n = 16
          · simp [h16]
          · simp [h1, h2, h5, h6, h16]

end Go.Proofs.YtmcldfjfgmhklaaDoor.Lem
