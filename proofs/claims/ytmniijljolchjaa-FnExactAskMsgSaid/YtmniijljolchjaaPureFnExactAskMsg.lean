/- For all integers and questions the program's AskMsg returns what the reference's returns, in memory of its own. No condition. -/
import Derived.Test.YtmniijljolchjaaY
import Derived.Test.YtmniijljolchjaaLmsg
import Derived.Test.YtmniijljolchjaaLmsg2
import Derived.Test.YtmniijljolchjaaLmsg3
import Derived.Test.YtmniijljolchjaaPrx3
import Derived.Test.YtmniijljolchjaaPrx4
import Derived.Test.YtmniijljolchjaaPrx6
namespace Go.Proofs.Ytmniijljolchjaa.Pure
open Go.RowKit Go.Proofs.Ytmniijljolchjaa.Pr Go.Proofs.Ytmniijljolchjaa.X Go.Proofs.Ytmniijljolchjaa.Y Go.Proofs.Ytmniijljolchjaa.Lem Go.Proofs.YtmniijljolchjaaW.PrintWords Go.Proofs.YtmniijljolchjaaW.PrintLast Go.Proofs.YtmniijljolchjaaW.PrintMore
set_option linter.unusedVariables false
set_option linter.unusedSimpArgs false
theorem FnExactAskMsg : laws_FnExactAskMsg.Pure := by
  intro a0 s n _ hq
  refine Ev.rounds ?_ (r := true)
  unfold laws_FnExactAskMsg.f
  obtain ⟨r, e, b, c⟩ := szQuest_eq s hq.1 n
  simp only [e, Option.bind_some]
  by_cases z : r < 0
  · simp only [if_pos z]
    exact Ev.now _
  · simp only [if_neg z]
    unfold laws_toQuest.f spec_AskMsg.f impl_AskMsg.f
    simp only [Option.bind_some]
    refine Ev.bind (eqMsg_same _ _ _ _ _ _ _ _ _ _ _ _ (by simp) (by simp) (by simp)) ?_
    simp only [if_true]
    refine Ev.bind (markMsg_eq _ _ _ _ _ _ _ _ _ [] [] [] (by simp) (by simp) (by simp)) ?_
    refine Ev.bind (heldMsg_eq _ _ _ _ _ _ _ _ _ 0 0 0 (by omega) (by omega) (by omega)) ?_
    have p : ¬ (1 + 6 * ((0 : Nat) : Int) + 6 * ((0 : Nat) : Int) + 6 * ((0 : Nat) : Int)) < 0 := by omega
    simp only [if_neg p, List.length_nil, if_true]
    refine Ev.bind (eqMsg_same _ _ _ _ _ _ _ _ _ _ _ _ (by simp) (by simp) (by simp)) ?_
    simp only [if_true]
    refine Ev.bind (heldMsg_eq _ _ _ _ _ _ _ _ _ 0 0 0 (by omega) (by omega) (by omega)) ?_
    simp only [if_neg p, if_true]
    exact Ev.now _

end Go.Proofs.Ytmniijljolchjaa.Pure
