/- Lemmas on the printed functions, of this session. -/
import Derived.Test.YtmniijljolchjaaY
import Derived.Test.YtmniijljolchjaaPrx0
import Derived.Test.YtmniijljolchjaaPrx10
namespace Go.Proofs.Ytmniijljolchjaa.Lem
open Go.RowKit Go.Proofs.Ytmniijljolchjaa.Pr Go.Proofs.Ytmniijljolchjaa.X Go.Proofs.Ytmniijljolchjaa.Y Go.Proofs.YtmniijljolchjaaW.PrintWords Go.Proofs.YtmniijljolchjaaW.PrintLast Go.Proofs.YtmniijljolchjaaW.PrintMore
set_option linter.unusedVariables false
set_option linter.unusedSimpArgs false
theorem Ev_if {α : Type} {c : Prop} [Decidable c] {f g : Nat → Option α} {x : α} (h : c) (h1 : Ev f x) : Ev (fun k => if c then f k else g k) x := by
  simp only [if_pos h]
  exact h1
theorem Ev_ifn {α : Type} {c : Prop} [Decidable c] {f g : Nat → Option α} {x : α} (h : ¬ c) (h1 : Ev g x) : Ev (fun k => if c then f k else g k) x := by
  simp only [if_neg h]
  exact h1
/-- What CountsOf answers. -/
def cntM (l9 l10 l11 : List S73) : Int := wrap64 ((wrap64 ((l9.length : Int) + (l10.length : Int))) + (l11.length : Int))
theorem spec_CountsOf_eq (a0 : Int) (a1 a2 a3 a4 a5 : Bool) (a6 : Int) (a7 : ByteArray) (a8 : Int) (l9 l10 l11 : List S73) : Ev (fun _ => spec_CountsOf.f a0 a1 a2 a3 a4 a5 a6 a7 a8 l9 l10 l11) (cntM l9 l10 l11) := ⟨0, fun _ _ => rfl⟩
theorem impl_CountsOf_eq (a0 : Int) (a1 a2 a3 a4 a5 : Bool) (a6 : Int) (a7 : ByteArray) (a8 : Int) (l9 l10 l11 : List S73) : Ev (fun _ => impl_CountsOf.f a0 a1 a2 a3 a4 a5 a6 a7 a8 l9 l10 l11) (cntM l9 l10 l11) := ⟨0, fun _ _ => rfl⟩

end Go.Proofs.Ytmniijljolchjaa.Lem
