/- For whatever is drawn: a number of four bytes is read again from where it was put, and the program's Put4, Get4, Least and Most return what the reference's return. No condition. -/
import Derived.Test.YtbohkphbgkgaeaaY
import Derived.Test.YtbohkphbgkgaeaaLMFours1
import Derived.Test.YtbohkphbgkgaeaaPrx0
import Derived.Test.YtbohkphbgkgaeaaPrx10
namespace Go.Proofs.Ytbohkphbgkgaeaa.Pure
open Go.RowKit Go.Proofs.Ytbohkphbgkgaeaa.Pr Go.Proofs.Ytbohkphbgkgaeaa.X Go.Proofs.Ytbohkphbgkgaeaa.Y Go.Proofs.Ytbohkphbgkgaeaa.Lem Go.Proofs.YtbohkphbgkgaeaaW.PrintWords Go.Proofs.YtbohkphbgkgaeaaW.PrintLast Go.Proofs.YtbohkphbgkgaeaaW.PrintMore
set_option linter.unusedVariables false
set_option linter.unusedSimpArgs false
theorem FnFours : laws_FnFours.Pure := by
  intro l hl
  obtain ⟨_, hn, hw⟩ := hl
  refine Ev.rounds ?_ (r := true)
  unfold laws_FnFours.f
  rw [big_eq]
  simp only [Option.bind_some, decide_eq_true_eq]
  by_cases hbig : (l.length : Int) > 1048576
  · exact Ev_if hbig (Ev.now _)
  · refine Ev_ifn hbig ?_
    obtain ⟨b, n, d1, p1, q1, r1⟩ := drawPut4_ev l (by omega)
    obtain ⟨c, i, d2, p2, q2, r2⟩ := drawGet4_ev l (by omega)
    obtain ⟨x, y, d3⟩ := drawLeast_ev l (by omega)
    have hi2 : -9223372036854775808 ≤ i ∧ i ≤ 9223372036854775807 := by omega
    have l1 := put4_le b n
    have sm := same_eq (put4 b n) (by omega)
    obtain ⟨u, u1, u2⟩ := least_both x y
    obtain ⟨v, v1, v2⟩ := most_both x y
    refine Ev.bind d1 (Ev.bind (impl_Put4_eq b (by omega) n) (Ev.bind d2 (Ev.bind (impl_Get4_eq c (by omega) p2 i hi2) (Ev.bind (spec_Get4_eq c (by omega) p2 i hi2) (Ev.bind d3 (Ev.bind (Ev_c (spec_Put4_eq b (by omega) n)) (Ev.bind sm (Ev_if rfl (Ev_if rfl (Ev_ifn (by simp) ?_))))))))))
    refine Ev.bind (Ev_c u1) (Ev.bind (Ev_c u2) (Ev_if rfl (Ev.bind (Ev_c v1) (Ev.bind (Ev_c v2) (Ev_if rfl ?_)))))
    have back : ∀ z : ¬ (0 ≤ n ∧ n ≤ 2147483647), put4 b n = b := fun z => by unfold put4; rw [if_neg z]
    by_cases n0 : n < 0
    · refine Ev_if n0 (Ev_ret ?_)
      have := sm
      rw [back (by omega)] at this ⊢
      exact this
    · refine Ev_ifn n0 ?_
      by_cases n1 : n > 2147483647
      · refine Ev_if n1 (Ev_ret ?_)
        have := sm
        rw [back (by omega)] at this ⊢
        exact this
      · refine Ev_ifn n1 ?_
        have hx : put4 b n = b ++ be4 n := by unfold put4; rw [if_pos (by omega)]
        have g := impl_Get4_eq (put4 b n) (by omega) (bytes_put4 p1 n) (b.length : Int) (by omega)
        have rt := rt_get4 b n [] (by omega)
        rw [List.append_nil] at rt
        rw [rt] at g
        refine Ev.bind g (Ev_if rfl (Ev_if rfl ?_))
        by_cases ok : (get4 c i).2 = true
        · refine Ev_if ok (Ev.bind (impl_Put4_eq [] (by simp) (get4 c i).1) ?_)
          have hr : 0 ≤ i ∧ i ≤ (c.length : Int) - 4 := by
            unfold get4 at ok
            split at ok
            · assumption
            · cases ok
          have wi : wrap64 (i + 4) = i + 4 := wrap_id (by omega) (by omega)
          simp only [wi]
          refine Ev_if hr.1 (Ev_if (show i ≤ i + 4 by omega) (Ev_if (show i + 4 ≤ (c.length : Int) by omega) (Ev_ret ?_)))
          have e : (c.take (i + 4).toNat).drop i.toNat = put4 [] (get4 c i).1 := by
            rw [rt_put4 c i p2 ok, List.drop_take]
            congr 1
            omega
          rw [e]
          have := put4_le [] (get4 c i).1
          exact same_eq _ (by simp at this; omega)
        · exact Ev_ifn ok (Ev.now _)

end Go.Proofs.Ytbohkphbgkgaeaa.Pure
