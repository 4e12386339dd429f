/- Lemmas on the printed functions, of this session. -/
import Derived.Test.YtmniijljolchjaaY
import Derived.Test.YtmniijljolchjaaLsame
import Derived.Test.YtmniijljolchjaaPrx0
import Derived.Test.YtmniijljolchjaaPrx8
namespace Go.Proofs.Ytmniijljolchjaa.Lem
open Go.RowKit Go.Proofs.Ytmniijljolchjaa.Pr Go.Proofs.Ytmniijljolchjaa.X Go.Proofs.Ytmniijljolchjaa.Y Go.Proofs.YtmniijljolchjaaW.PrintWords Go.Proofs.YtmniijljolchjaaW.PrintLast Go.Proofs.YtmniijljolchjaaW.PrintMore
set_option linter.unusedVariables false
set_option linter.unusedSimpArgs false
theorem Ev_ite {α : Type} {c : Prop} [Decidable c] {f g : Nat → Option α} {x y : α} (h1 : c → Ev f x) (h2 : ¬ c → Ev g y) : Ev (fun k => if c then f k else g k) (if c then x else y) := by
  by_cases h : c
  · simp only [if_pos h]
    exact h1 h
  · simp only [if_neg h]
    exact h2 h
/-- What SameMsg answers. -/
def sameM (a0 : Int) (a1 a2 a3 a4 a5 : Bool) (a6 : Int) (a7 : ByteArray) (a8 : Int) (l9 l10 l11 : List S73) (b0 : Int) (b1 b2 b3 b4 b5 : Bool) (b6 : Int) (b7 : ByteArray) (b8 : Int) (m9 m10 m11 : List S73) : Bool :=
  if a0 = b0 then (if (a1 == b1) = true then (if (a2 == b2) = true then (if (a3 == b3) = true then (if (a4 == b4) = true then (if (a5 == b5) = true then (if a6 = b6 then (if (a7.toList == b7.toList && (a8 == b8)) = true then (if sameL l9 m9 = true then (if sameL l10 m10 = true then sameL l11 m11 else false) else false) else false) else false) else false) else false) else false) else false) else false) else false
theorem spec_SameMsg_eq (a0 : Int) (a1 a2 a3 a4 a5 : Bool) (a6 : Int) (a7 : ByteArray) (a8 : Int) (l9 l10 l11 : List S73) (b0 : Int) (b1 b2 b3 b4 b5 : Bool) (b6 : Int) (b7 : ByteArray) (b8 : Int) (m9 m10 m11 : List S73) (h9 : l9.length ≤ 140737488351232) (h10 : l10.length ≤ 140737488351232) (h11 : l11.length ≤ 140737488351232) :
    Ev (fun k => spec_SameMsg.f k a0 a1 a2 a3 a4 a5 a6 a7 a8 l9 l10 l11 b0 b1 b2 b3 b4 b5 b6 b7 b8 m9 m10 m11) (sameM a0 a1 a2 a3 a4 a5 a6 a7 a8 l9 l10 l11 b0 b1 b2 b3 b4 b5 b6 b7 b8 m9 m10 m11) := by
  unfold spec_SameMsg.f sameM
  refine Ev_ite (fun _ => ?_) (fun _ => Ev.now _)
  refine Ev_ite (fun _ => ?_) (fun _ => Ev.now _)
  refine Ev_ite (fun _ => ?_) (fun _ => Ev.now _)
  refine Ev_ite (fun _ => ?_) (fun _ => Ev.now _)
  refine Ev_ite (fun _ => ?_) (fun _ => Ev.now _)
  refine Ev_ite (fun _ => ?_) (fun _ => Ev.now _)
  refine Ev_ite (fun _ => ?_) (fun _ => Ev.now _)
  refine Ev_ite (fun _ => ?_) (fun _ => Ev.now _)
  refine Ev.bind (spec_SameRecords_eq l9 m9 h9) (Ev_ite (fun _ => ?_) (fun _ => Ev.now _))
  refine Ev.bind (spec_SameRecords_eq l10 m10 h10) (Ev_ite (fun _ => ?_) (fun _ => Ev.now _))
  exact Ev.bind (spec_SameRecords_eq l11 m11 h11) (Ev.now _)
theorem impl_SameMsg_eq (a0 : Int) (a1 a2 a3 a4 a5 : Bool) (a6 : Int) (a7 : ByteArray) (a8 : Int) (l9 l10 l11 : List S73) (b0 : Int) (b1 b2 b3 b4 b5 : Bool) (b6 : Int) (b7 : ByteArray) (b8 : Int) (m9 m10 m11 : List S73) (h9 : l9.length ≤ 140737488351232) (h10 : l10.length ≤ 140737488351232) (h11 : l11.length ≤ 140737488351232) :
    Ev (fun k => impl_SameMsg.f k a0 a1 a2 a3 a4 a5 a6 a7 a8 l9 l10 l11 b0 b1 b2 b3 b4 b5 b6 b7 b8 m9 m10 m11) (sameM a0 a1 a2 a3 a4 a5 a6 a7 a8 l9 l10 l11 b0 b1 b2 b3 b4 b5 b6 b7 b8 m9 m10 m11) := by
  unfold impl_SameMsg.f sameM
  refine Ev_ite (fun _ => ?_) (fun _ => Ev.now _)
  refine Ev_ite (fun _ => ?_) (fun _ => Ev.now _)
  refine Ev_ite (fun _ => ?_) (fun _ => Ev.now _)
  refine Ev_ite (fun _ => ?_) (fun _ => Ev.now _)
  refine Ev_ite (fun _ => ?_) (fun _ => Ev.now _)
  refine Ev_ite (fun _ => ?_) (fun _ => Ev.now _)
  refine Ev_ite (fun _ => ?_) (fun _ => Ev.now _)
  refine Ev_ite (fun _ => ?_) (fun _ => Ev.now _)
  refine Ev.bind (impl_SameRecords_eq l9 m9 h9) (Ev_ite (fun _ => ?_) (fun _ => Ev.now _))
  refine Ev.bind (impl_SameRecords_eq l10 m10 h10) (Ev_ite (fun _ => ?_) (fun _ => Ev.now _))
  exact Ev.bind (impl_SameRecords_eq l11 m11 h11) (Ev.now _)

end Go.Proofs.Ytmniijljolchjaa.Lem
