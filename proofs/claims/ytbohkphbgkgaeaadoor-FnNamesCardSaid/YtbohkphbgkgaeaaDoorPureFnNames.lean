/- For whatever is drawn: the names above a name begin with it and end with the root, each is its predecessor's Up, the name lies under each, and each has one label less; a name lies under itself, and two names that lie under each other are one; and the program's Above, Under, NameOk and Up return what the reference's return. No condition. -/
import Derived.Test.YtbohkphbgkgaeaaDoorY
import Derived.Test.YtbohkphbgkgaeaaDoorLMNames1
import Derived.Test.YtbohkphbgkgaeaaDoorPrx0
import Derived.Test.YtbohkphbgkgaeaaDoorPrx13
import Derived.Test.YtbohkphbgkgaeaaDoorPrx14
import Derived.Test.YtbohkphbgkgaeaaDoorPrx15
import Derived.Test.YtbohkphbgkgaeaaDoorPrx2
namespace Go.Proofs.YtbohkphbgkgaeaaDoor.Pure
open Go.RowKit Go.Proofs.YtbohkphbgkgaeaaDoor.Pr Go.Proofs.YtbohkphbgkgaeaaDoor.X Go.Proofs.YtbohkphbgkgaeaaDoor.Y Go.Proofs.YtbohkphbgkgaeaaDoor.Lem Go.Proofs.YtbohkphbgkgaeaaDoorW.PrintWords Go.Proofs.YtbohkphbgkgaeaaDoorW.PrintLast Go.Proofs.YtbohkphbgkgaeaaDoorW.PrintMore
set_option linter.unusedVariables false
set_option linter.unusedSimpArgs false
theorem rdAbove (s : ByteArray) (i : Nat) (h : i ≤ (labelsL s).length) : rdOf ByteArray.empty (above s) (i : Int) = joinS ((labelsL s).drop i) := by
  have al := above_length s
  rw [rdS_getElem (above s) i (by omega)]
  exact above_get (labelsL s) i (by unfold above at al; omega)
theorem names_tail (a b : ByteArray) (ha : a.size ≤ 200) (hb : b.size ≤ 200) : Ev (fun k => (impl_Under.f k a a).bind fun t874 => (if t874 = true then ((impl_Under.f k a b).bind fun t875 => (if t875 = true then ((impl_Under.f k b a).bind fun t876 => (if t876 = true then (if a.toList = b.toList then ((impl_Under.f k a b).bind fun t877 => (if t877 = true then ((impl_PartsOf.f a).bind fun t878 => ((impl_PartsOf.f b).bind fun t879 => (some (decide (t878 ≥ t879))))) else (some true))) else (some false)) else ((impl_Under.f k a b).bind fun t880 => (if t880 = true then ((impl_PartsOf.f a).bind fun t881 => ((impl_PartsOf.f b).bind fun t882 => (some (decide (t881 ≥ t882))))) else (some true))))) else ((impl_Under.f k a b).bind fun t883 => (if t883 = true then ((impl_PartsOf.f a).bind fun t884 => ((impl_PartsOf.f b).bind fun t885 => (some (decide (t884 ≥ t885))))) else (some true))))) else (some false))) true := by
  have uaa := impl_Under_eq a a (by omega) (by omega)
  have uab := impl_Under_eq a b (by omega) (by omega)
  have uba := impl_Under_eq b a (by omega) (by omega)
  have pa := impl_PartsOf_eq a (by omega)
  have pb := impl_PartsOf_eq b (by omega)
  rw [under_refl] at uaa
  have fin : Ev (fun k => (impl_Under.f k a b).bind fun t877 => (if t877 = true then ((impl_PartsOf.f a).bind fun t878 => ((impl_PartsOf.f b).bind fun t879 => (some (decide (t878 ≥ t879))))) else (some true))) true := by
    refine Ev.bind uab ?_
    by_cases u : underL (labelsL a) (labelsL b) = true
    · have := under_parts u
      refine Ev_if u (Ev.bind (Ev_c pa) (Ev.bind (Ev_c pb) (Ev_c ?_)))
      rw [decide_eq_true (by omega)]
    · exact Ev_ifn u (Ev_some _)
  refine Ev.bind uaa (Ev_if rfl (Ev.bind uab ?_))
  by_cases u : underL (labelsL a) (labelsL b) = true
  · refine Ev_if u (Ev.bind uba ?_)
    by_cases v : underL (labelsL b) (labelsL a) = true
    · exact Ev_if v (Ev_if (by rw [under_antisymm a b u v]) fin)
    · exact Ev_ifn v fin
  · exact Ev_ifn u fin
theorem names_loop (s a b : ByteArray) (hs : s.size ≤ 60) (ha : a.size ≤ 200) (hb : b.size ≤ 200) : ∀ (d i : Nat), i + d = (above s).length → Ev (fun k => laws_FnNames.l0 k s a b (above s) (i : Int)) true := by
  have al := above_length s
  have ll := labelsL_length s
  have tail := names_tail a b ha hb
  intro d
  induction d with
  | zero =>
    intro i hi
    refine Ev.step (fun k => ?_) tail
    simp only [laws_FnNames.l0]
    rw [if_neg (by omega)]
  | succ d ih =>
    intro i hi
    have nk := impl_NameOk_eq s (by omega)
    have step : ∀ r, Ev (fun k => (impl_NameOk.f k s).bind fun t866 => (if t866 = true then (if 0 ≤ (i : Int) then ((impl_Under.f k s (rdOf ByteArray.empty (above s) (i : Int))).bind fun t868 => (if t868 = true then ((impl_PartsOf.f (rdOf ByteArray.empty (above s) (i : Int))).bind fun t870 => (if t870 = (wrap64 ((wrap64 (((above s).length : Int) - 1)) - (i : Int))) then (if (i : Int) > 0 then (if 0 ≤ (wrap64 ((i : Int) - 1)) then (if (wrap64 ((i : Int) - 1)) < ((above s).length : Int) then ((impl_Up.f (rdOf ByteArray.empty (above s) (wrap64 ((i : Int) - 1)))).bind fun t872 => (if t872.toList = (rdOf ByteArray.empty (above s) (i : Int)).toList then (laws_FnNames.l0 k s a b (above s) (wrap64 ((i : Int) + 1))) else (some false))) else (none)) else (none)) else (laws_FnNames.l0 k s a b (above s) (wrap64 ((i : Int) + 1)))) else (some false))) else (some false))) else (none)) else ((impl_Under.f k a a).bind fun t874 => (if t874 = true then ((impl_Under.f k a b).bind fun t875 => (if t875 = true then ((impl_Under.f k b a).bind fun t876 => (if t876 = true then (if a.toList = b.toList then ((impl_Under.f k a b).bind fun t877 => (if t877 = true then ((impl_PartsOf.f a).bind fun t878 => ((impl_PartsOf.f b).bind fun t879 => (some (decide (t878 ≥ t879))))) else (some true))) else (some false)) else ((impl_Under.f k a b).bind fun t880 => (if t880 = true then ((impl_PartsOf.f a).bind fun t881 => ((impl_PartsOf.f b).bind fun t882 => (some (decide (t881 ≥ t882))))) else (some true))))) else ((impl_Under.f k a b).bind fun t883 => (if t883 = true then ((impl_PartsOf.f a).bind fun t884 => ((impl_PartsOf.f b).bind fun t885 => (some (decide (t884 ≥ t885))))) else (some true))))) else (some false))))) r → Ev (fun k => laws_FnNames.l0 k s a b (above s) (i : Int)) r := by
      intro r h
      refine Ev.step (fun k => ?_) h
      simp only [laws_FnNames.l0]
      rw [if_pos (by omega)]
    by_cases ok : nameOk s = true
    · rw [ok] at nk
      obtain ⟨hall, _, hl6⟩ := nameOk_all ok
      have w := wrap_succ i (above s).length (by omega) (by omega)
      have r1 := rdAbove s i (by omega)
      have lj := labels_join ((labelsL s).drop i) (fun x hx => hall x (List.mem_of_mem_drop hx))
      have sz : (joinS ((labelsL s).drop i)).size ≤ 200 := by
        rw [joinS_size_eq, List.length_drop]
        have := szSs_drop_le (labelsL s) i
        have := labelsL_size s
        omega
      have un := impl_Under_eq s (joinS ((labelsL s).drop i)) (by omega) (by omega)
      rw [lj, under_drop (labelsL s) i (by omega)] at un
      have pt := impl_PartsOf_eq (joinS ((labelsL s).drop i)) (by omega)
      rw [lj, List.length_drop] at pt
      have w1 : wrap64 (((above s).length : Int) - 1) = ((labelsL s).length : Int) := by
        rw [wrap_id (by omega) (by omega)]
        omega
      have w2 : wrap64 (((labelsL s).length : Int) - (i : Int)) = (((labelsL s).length - i : Nat) : Int) := by
        rw [wrap_id (by omega) (by omega)]
        omega
      by_cases i0 : (i : Int) > 0
      · have w3 : wrap64 ((i : Int) - 1) = ((i - 1 : Nat) : Int) := by
          rw [wrap_id (by omega) (by omega)]
          omega
        have r2 := rdAbove s (i - 1) (by omega)
        have lj2 := labels_join ((labelsL s).drop (i - 1)) (fun x hx => hall x (List.mem_of_mem_drop hx))
        have sz2 : (joinS ((labelsL s).drop (i - 1))).size ≤ 200 := by
          rw [joinS_size_eq, List.length_drop]
          have := szSs_drop_le (labelsL s) (i - 1)
          have := labelsL_size s
          omega
        have up := impl_Up_eq (joinS ((labelsL s).drop (i - 1))) (by omega)
        have eup : upN (joinS ((labelsL s).drop (i - 1))) = joinS ((labelsL s).drop i) := by
          unfold upN
          rw [lj2, List.drop_drop]
          congr 2
          omega
        rw [eup] at up
        refine step _ (Ev.bind nk (Ev_if rfl (Ev_if (by omega) ?_)))
        rw [r1, w1, w2, w3, r2]
        exact Ev.bind un (Ev_if rfl (Ev.bind (Ev_c pt) (Ev_if rfl (Ev_if i0 (Ev_if (by omega) (Ev_if (by omega) (Ev.bind (Ev_c up) (Ev_if rfl (by rw [w]; exact ih (i + 1) (by omega))))))))))
      · refine step _ (Ev.bind nk (Ev_if rfl (Ev_if (by omega) ?_)))
        rw [r1, w1, w2]
        exact Ev.bind un (Ev_if rfl (Ev.bind (Ev_c pt) (Ev_if rfl (Ev_ifn i0 (by rw [w]; exact ih (i + 1) (by omega))))))
    · have nkf : nameOk s = false := by cases h : nameOk s <;> simp_all
      rw [nkf] at nk
      exact step _ (Ev.bind nk (Ev_ifn (by decide) tail))
theorem FnNames : laws_FnNames.Pure := by
  intro l hl
  obtain ⟨_, hn, hw⟩ := hl
  refine Ev.rounds ?_ (r := true)
  unfold laws_FnNames.f
  rw [big_eq]
  simp only [Option.bind_some, decide_eq_true_eq]
  by_cases hbig : (l.length : Int) > 1048576
  · exact Ev_if hbig (Ev.now _)
  · refine Ev_ifn hbig ?_
    obtain ⟨s, d1, hs⟩ := drawAbove_ev l (by omega)
    obtain ⟨a, b, d2, ha, hb⟩ := drawUnder_ev l (by omega)
    have al := above_length s
    have ll := labelsL_length s
    have w1 : wrap64 (((above s).length : Int) - 1) = ((labelsL s).length : Int) := by
      rw [wrap_id (by omega) (by omega)]
      omega
    have w2 : wrap64 (((labelsL s).length : Int) + 1) = ((above s).length : Int) := by
      rw [wrap_id (by omega) (by omega)]
      omega
    have r0 := rdAbove s 0 (by omega)
    have rl := rdAbove s (labelsL s).length (by omega)
    rw [List.drop_zero, join_labels] at r0
    rw [List.drop_of_length_le (Nat.le_refl _)] at rl
    refine Ev.bind d1 (Ev.bind d2 (Ev.bind (impl_Above_eq s (by omega)) (Ev.bind (spec_Above_eq s (by omega)) (Ev.bind (sameStrs_eq (above s) (by omega)) (Ev_if rfl ?_)))))
    refine Ev.bind (impl_Under_eq a b (by omega) (by omega)) (Ev.bind (spec_Under_eq a b (by omega) (by omega)) (Ev_ifn (by simp) (Ev.bind (impl_NameOk_eq s (by omega)) (Ev.bind (spec_NameOk_eq s (by omega)) (Ev_ifn (by simp) ?_)))))
    refine Ev.bind (Ev_c (impl_Up_eq s (by omega))) (Ev.bind (spec_Up_eq s (by omega)) (Ev_if rfl (Ev.bind (Ev_c (impl_PartsOf_eq s (by omega))) ?_)))
    rw [w1, w2]
    refine Ev_if rfl (Ev_if (by omega) (Ev_if (by rw [show (0 : Int) = ((0 : Nat) : Int) from rfl, r0]) (Ev_if (by omega) (Ev_if (by omega) (Ev_if (by rw [rl]; exact empty_toList) ?_)))))
    exact names_loop s a b hs ha hb (above s).length 0 (by omega)

end Go.Proofs.YtbohkphbgkgaeaaDoor.Pure
