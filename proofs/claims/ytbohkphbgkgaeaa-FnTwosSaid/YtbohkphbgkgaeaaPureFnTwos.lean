/- For whatever is drawn: a number of two bytes is read again from where it was put, and the program's Put2 and Get2 return what the reference's return. No condition. -/
import Derived.Test.YtbohkphbgkgaeaaY
import Derived.Test.YtbohkphbgkgaeaaLMTwos1
import Derived.Test.YtbohkphbgkgaeaaPrx0
import Derived.Test.YtbohkphbgkgaeaaPrx8
namespace Go.Proofs.Ytbohkphbgkgaeaa.Pure
open Go.RowKit Go.Proofs.Ytbohkphbgkgaeaa.Pr Go.Proofs.Ytbohkphbgkgaeaa.X Go.Proofs.Ytbohkphbgkgaeaa.Y Go.Proofs.Ytbohkphbgkgaeaa.Lem Go.Proofs.YtbohkphbgkgaeaaW.PrintWords Go.Proofs.YtbohkphbgkgaeaaW.PrintLast Go.Proofs.YtbohkphbgkgaeaaW.PrintMore
set_option linter.unusedVariables false
set_option linter.unusedSimpArgs false
theorem FnTwos : laws_FnTwos.Pure := by
  intro l hl
  obtain ⟨_, hn, hw⟩ := hl
  refine Ev.rounds ?_ (r := true)
  unfold laws_FnTwos.f
  rw [big_eq]
  simp only [Option.bind_some, decide_eq_true_eq]
  by_cases hbig : (l.length : Int) > 1048576
  · exact Ev_if hbig (Ev.now _)
  · refine Ev_ifn hbig ?_
    obtain ⟨b, n, d1, p1, q1, r1⟩ := drawPut2_ev l (by omega)
    obtain ⟨c, i, d2, p2, q2, r2⟩ := drawGet2_ev l (by omega)
    have hi2 : -9223372036854775808 ≤ i ∧ i ≤ 9223372036854775807 := by omega
    have l1 := put2_le b n
    have sm := same_eq (put2 b n) (by omega)
    refine Ev.bind d1 (Ev.bind (impl_Put2_eq b (by omega) n) (Ev.bind d2 (Ev.bind (impl_Get2_eq c (by omega) p2 i hi2) (Ev.bind (Ev_c (spec_Get2_eq c (by omega) p2 i hi2)) (Ev.bind (Ev_c (spec_Put2_eq b (by omega) n)) (Ev.bind sm (Ev_if rfl (Ev_if rfl (Ev_ifn (by simp) ?_)))))))))
    have back : ∀ z : ¬ (0 ≤ n ∧ n ≤ 65535), put2 b n = b := fun z => by unfold put2; rw [if_neg z]
    by_cases n0 : n < 0
    · refine Ev_if n0 (Ev_ret ?_)
      have := sm
      rw [back (by omega)] at this ⊢
      exact this
    · refine Ev_ifn n0 ?_
      by_cases n1 : n > 65535
      · refine Ev_if n1 (Ev_ret ?_)
        have := sm
        rw [back (by omega)] at this ⊢
        exact this
      · refine Ev_ifn n1 ?_
        have hx : put2 b n = b ++ be2 n := by unfold put2; rw [if_pos (by omega)]
        have hlen : (put2 b n).length = b.length + 2 := by rw [hx]; simp [be2]
        simp only [Option.bind_some, List.nil_append, List.length_nil, Nat.zero_add]
        refine Ev_if (by omega) (Ev_if (by omega) ?_)
        have g := impl_Get2_eq (put2 b n ++ [7]) (by simp; omega) ((bytes_put2 p1 n).append (fun x hx => by rw [List.mem_singleton.1 hx]; omega)) (b.length : Int) (by omega)
        rw [rt_get2 b n [7] (by omega)] at g
        have w2 : wrap64 ((b.length : Int) + 2) = (b.length : Int) + 2 := wrap_id (by omega) (by omega)
        refine Ev.bind g (Ev_if rfl (Ev_if rfl (Ev_if (by rw [w2, hlen]; omega) ?_)))
        by_cases ok : (get2 c i).2 = true
        · refine Ev_if ok (Ev.bind (impl_Put2_eq [] (by simp) (get2 c i).1) ?_)
          have hr : 0 ≤ i ∧ i ≤ (c.length : Int) - 2 := by
            unfold get2 at ok
            split at ok
            · assumption
            · cases ok
          have wi : wrap64 (i + 2) = i + 2 := wrap_id (by omega) (by omega)
          simp only [wi]
          refine Ev_if hr.1 (Ev_if (show i ≤ i + 2 by omega) (Ev_if (show i + 2 ≤ (c.length : Int) by omega) (Ev_ret ?_)))
          have e : (c.take (i + 2).toNat).drop i.toNat = put2 [] (get2 c i).1 := by
            rw [rt_put2 c i p2 ok, List.drop_take]
            congr 1
            omega
          rw [e]
          have := put2_le [] (get2 c i).1
          exact same_eq _ (by simp at this; omega)
        · exact Ev_ifn ok (Ev.now _)

end Go.Proofs.Ytbohkphbgkgaeaa.Pure
