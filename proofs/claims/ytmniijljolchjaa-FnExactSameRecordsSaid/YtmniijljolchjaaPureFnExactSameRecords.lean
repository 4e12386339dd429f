/- For all lists of records the program's SameRecords returns what the reference's returns, and leaves its arguments alone. No condition. -/
import Derived.Test.YtmniijljolchjaaY
import Derived.Test.YtmniijljolchjaaLrec
import Derived.Test.YtmniijljolchjaaLsame
import Derived.Test.YtmniijljolchjaaPrx8
namespace Go.Proofs.Ytmniijljolchjaa.Pure
open Go.RowKit Go.Proofs.Ytmniijljolchjaa.Pr Go.Proofs.Ytmniijljolchjaa.X Go.Proofs.Ytmniijljolchjaa.Y Go.Proofs.Ytmniijljolchjaa.Lem Go.Proofs.YtmniijljolchjaaW.PrintWords Go.Proofs.YtmniijljolchjaaW.PrintLast Go.Proofs.YtmniijljolchjaaW.PrintMore
set_option linter.unusedVariables false
set_option linter.unusedSimpArgs false
theorem FnExactSameRecords : laws_FnExactSameRecords.Pure := by
  intro a b ha hb
  obtain ⟨_, hn, hga⟩ := ha
  obtain ⟨_, hm, hgb⟩ := hb
  refine Ev.rounds ?_ (r := true)
  unfold laws_FnExactSameRecords.f
  obtain ⟨r, hr, r0, r1, r2⟩ := szRecordS_eq a (by omega) (fun x hx => g_okR (hga x hx)) 1048576 (by omega)
  refine Ev.bind hr ?_
  by_cases c : r < 0
  · simp only [if_pos c]
    exact Ev.now _
  · simp only [if_neg c]
    obtain ⟨q, hq, q0, q1, q2⟩ := szRecordS_eq b (by omega) (fun x hx => g_okR (hgb x hx)) r (by omega)
    refine Ev.bind hq ?_
    by_cases c2 : q < 0
    · simp only [if_pos c2]
      exact Ev.now _
    · simp only [if_neg c2]
      have hla : a.length ≤ 1048576 := by have := r2 (by omega); omega
      have hlb : b.length ≤ 1048576 := by have := q2 (by omega); omega
      have hma : (a.map cvR).length ≤ 140737488351232 := by rw [List.length_map]; omega
      have hmb : (b.map cvR).length ≤ 140737488351232 := by rw [List.length_map]; omega
      refine Ev.bind (toRecordS_eq a hla) (Ev.bind (toRecordS_eq b hlb) (Ev.bind (spec_SameRecords_eq _ _ hma) (Ev.bind (toRecordS_eq a hla) (Ev.bind (toRecordS_eq b hlb) (Ev.bind (impl_SameRecords_eq _ _ hma) ?_)))))
      simp only [bne_self_eq_false, if_neg (show ¬ (false = true) by decide)]
      refine Ev.bind (toRecordS_eq a hla) (Ev.bind (eqRecordS_same _ hma) ?_)
      simp only [if_true]
      refine Ev.bind (toRecordS_eq b hlb) (Ev.bind (eqRecordS_same _ hmb) ?_)
      simp only [if_true]
      exact Ev.now _

end Go.Proofs.Ytmniijljolchjaa.Pure
