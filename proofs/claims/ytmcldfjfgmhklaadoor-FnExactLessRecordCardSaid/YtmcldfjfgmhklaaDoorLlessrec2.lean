/- Lemmas on the printed functions, of this session. -/
import Derived.Test.YtmcldfjfgmhklaaDoorY
import Derived.Test.YtmcldfjfgmhklaaDoorLcmpor
import Derived.Test.YtmcldfjfgmhklaaDoorLev
import Derived.Test.YtmcldfjfgmhklaaDoorLless
import Derived.Test.YtmcldfjfgmhklaaDoorLlessrec
import Derived.Test.YtmcldfjfgmhklaaDoorPrx0
import Derived.Test.YtmcldfjfgmhklaaDoorPrx13
import Derived.Test.YtmcldfjfgmhklaaDoorPrx5
namespace Go.Proofs.YtmcldfjfgmhklaaDoor.Lem
open Go.RowKit Go.Proofs.YtmcldfjfgmhklaaDoor.Pr Go.Proofs.YtmcldfjfgmhklaaDoor.X Go.Proofs.YtmcldfjfgmhklaaDoor.Y Go.Proofs.YtmcldfjfgmhklaaDoorW.PrintWords Go.Proofs.YtmcldfjfgmhklaaDoorW.PrintLast Go.Proofs.YtmcldfjfgmhklaaDoorW.PrintMore
set_option linter.unusedVariables false
set_option linter.unusedSimpArgs false
theorem spec_LessRecord_eq (a0 : ByteArray) (a1 a2 a3 : Int) (a4 a5 b0 : ByteArray) (b1 b2 b3 : Int) (b4 b5 : ByteArray) (h0 : a0.size ≤ 1048576) (h4 : a4.size ≤ 1048576) (h5 : a5.size ≤ 1048576) (k0 : b0.size ≤ 1048576) (k4 : b4.size ≤ 1048576) (k5 : b5.size ≤ 1048576) :
    Ev (fun k => spec_LessRecord.f k a0 a1 a2 a3 a4 a5 b0 b1 b2 b3 b4 b5) (lessRec a0 a1 a2 a3 a4 a5 b0 b1 b2 b3 b4 b5) := by
  unfold spec_LessRecord.f lessRec
  by_cases e0 : a0 = b0
  · rw [if_pos e0]
    refine Ev_if (toList_inj.2 e0) ?_
    by_cases e1 : a1 = b1
    · rw [if_pos e1]
      refine Ev_if e1 ?_
      by_cases e3 : a3 = b3
      · rw [if_pos e3]
        refine Ev_if e3 ?_
        by_cases e4 : a4 = b4
        · rw [if_pos e4]
          refine Ev_if (toList_inj.2 e4) ?_
          by_cases e5 : a5 = b5
          · rw [if_pos e5]
            exact Ev_if (toList_inj.2 e5) ⟨0, fun _ _ => rfl⟩
          · rw [if_neg e5]
            exact Ev_ifn (fun h => e5 (toList_inj.1 h)) ⟨0, fun _ _ => rfl⟩
        · rw [if_neg e4]
          exact Ev_ifn (fun h => e4 (toList_inj.1 h)) (Ev.bind (spec_LessName_eq a4 b4 h4 k4) ⟨0, fun _ _ => rfl⟩)
      · rw [if_neg e3]
        exact Ev_ifn e3 ⟨0, fun _ _ => rfl⟩
    · rw [if_neg e1]
      exact Ev_ifn e1 ⟨0, fun _ _ => rfl⟩
  · rw [if_neg e0]
    exact Ev_ifn (fun h => e0 (toList_inj.1 h)) (Ev.bind (spec_LessName_eq a0 b0 h0 k0) ⟨0, fun _ _ => rfl⟩)
theorem cmp_string_C (a b : ByteArray) : cmp_Compare_string.f a b = some (strC a b) := cmp_string_eq a b
theorem impl_byRecord_eq (a0 : ByteArray) (a1 a2 a3 : Int) (a4 a5 b0 : ByteArray) (b1 b2 b3 : Int) (b4 b5 : ByteArray) (h0 : a0.size ≤ 1048576) (h4 : a4.size ≤ 1048576) (h5 : a5.size ≤ 1048576) (k0 : b0.size ≤ 1048576) (k4 : b4.size ≤ 1048576) (k5 : b5.size ≤ 1048576) :
    Ev (fun k => impl_byRecord.f k a0 a1 a2 a3 a4 a5 b0 b1 b2 b3 b4 b5) (orL [nameC a0 b0, intC a1 b1, intC a3 b3, nameC a4 b4, strC a5 b5, intC a2 b2]) := by
  unfold impl_byRecord.f
  rw [cmp_int_eq a1 b1, cmp_int_eq a3 b3, cmp_int_eq a2 b2, cmp_string_C a5 b5]
  simp only [Option.bind_some]
  exact Ev.bind (impl_byName_eq a0 b0 h0 k0) (Ev.bind (impl_byName_eq a4 b4 h4 k4) (Ev.bind (cmp_Or_eq _ (by simp)) ⟨0, fun _ _ => rfl⟩))
theorem impl_LessRecord_eq (a0 : ByteArray) (a1 a2 a3 : Int) (a4 a5 b0 : ByteArray) (b1 b2 b3 : Int) (b4 b5 : ByteArray) (h0 : a0.size ≤ 1048576) (h4 : a4.size ≤ 1048576) (h5 : a5.size ≤ 1048576) (k0 : b0.size ≤ 1048576) (k4 : b4.size ≤ 1048576) (k5 : b5.size ≤ 1048576) :
    Ev (fun k => impl_LessRecord.f k a0 a1 a2 a3 a4 a5 b0 b1 b2 b3 b4 b5) (lessRec a0 a1 a2 a3 a4 a5 b0 b1 b2 b3 b4 b5) := by
  unfold impl_LessRecord.f
  rw [← lessRec_or]
  exact Ev.bind (impl_byRecord_eq a0 a1 a2 a3 a4 a5 b0 b1 b2 b3 b4 b5 h0 h4 h5 k0 k4 k5) ⟨0, fun _ _ => rfl⟩

end Go.Proofs.YtmcldfjfgmhklaaDoor.Lem
