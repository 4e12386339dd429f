/- Lemmas on the printed functions, of this session. -/
import Derived.Test.YtmniijljolchjaaY
import Derived.Test.YtmniijljolchjaaPtx0
namespace Go.Proofs.Ytmniijljolchjaa.Lem
open Go.RowKit Go.Proofs.Ytmniijljolchjaa.Pt Go.Proofs.Ytmniijljolchjaa.X Go.Proofs.Ytmniijljolchjaa.Y Go.Proofs.YtmniijljolchjaaW.PrintWords Go.Proofs.YtmniijljolchjaaW.PrintLast Go.Proofs.YtmniijljolchjaaW.PrintMore
set_option linter.unusedVariables false
set_option linter.unusedSimpArgs false
theorem Ev_if {α : Type} {c : Prop} [Decidable c] {f g : Nat → Option α} {x : α} (h : c) (h1 : Ev f x) : Ev (fun k => if c then f k else g k) x := by
  simp only [if_pos h]
  exact h1
theorem Ev_ifn {α : Type} {c : Prop} [Decidable c] {f g : Nat → Option α} {x : α} (h : ¬ c) (h1 : Ev g x) : Ev (fun k => if c then f k else g k) x := by
  simp only [if_neg h]
  exact h1

end Go.Proofs.Ytmniijljolchjaa.Lem
