/- Lemmas on the printed functions, of this session. -/
import Derived.Test.YtmcldfjfgmhklaaDoorY
import Derived.Test.YtmcldfjfgmhklaaDoorPrx0
import Derived.Test.YtmcldfjfgmhklaaDoorPrx4
namespace Go.Proofs.YtmcldfjfgmhklaaDoor.Lem
open Go.RowKit Go.Proofs.YtmcldfjfgmhklaaDoor.Pr Go.Proofs.YtmcldfjfgmhklaaDoor.X Go.Proofs.YtmcldfjfgmhklaaDoor.Y Go.Proofs.YtmcldfjfgmhklaaDoorW.PrintWords Go.Proofs.YtmcldfjfgmhklaaDoorW.PrintLast Go.Proofs.YtmcldfjfgmhklaaDoorW.PrintMore
set_option linter.unusedVariables false
set_option linter.unusedSimpArgs false
theorem rdL_getElem (l : List S37) (i : Nat) (h : i < l.length) : rd_T37 l i = l[i] := by
  unfold rd_T37
  rw [Int.toNat_natCast, List.getD_eq_getElem?_getD, List.getElem?_eq_getElem h, Option.getD_some]
/-- How much a record takes, as the laws count it. -/
def szR (x : S37) : Nat := x.f0.size + x.f4.size + x.f5.size
def szRs (l : List S37) : Nat := (l.map szR).sum
/-- What is known of a record's strings. -/
def okR (x : S37) : Prop := x.f0.size ≤ 140737488351232 ∧ x.f4.size ≤ 140737488351232 ∧ x.f5.size ≤ 140737488351232
theorem g_okR {x : S37} (h : g37 x) : okR x := by
  obtain ⟨h0, _, _, _, h4, h5⟩ := h
  exact ⟨h0, h4, h5⟩
theorem szRecord_eq (x : S37) (h : okR x) (a : Int) (ha : -1 ≤ a ∧ a ≤ 1048576) : ∃ r, laws_szRecord.f x.f0 x.f1 x.f2 x.f3 x.f4 x.f5 a = some r ∧ -1 ≤ r ∧ r ≤ 1048576 ∧ (0 ≤ r → r = a - szR x) := by
  obtain ⟨h0, h4, h5⟩ := h
  unfold laws_szRecord.f szR
  rw [wrap_id (x := a - (x.f0.size : Int)) (by omega) (by omega)]
  by_cases c0 : a - (x.f0.size : Int) < 0
  · exact ⟨-1, by rw [if_pos c0], by omega, by omega, by omega⟩
  · rw [if_neg c0, wrap_id (x := a - (x.f0.size : Int) - (x.f4.size : Int)) (by omega) (by omega)]
    by_cases c1 : a - (x.f0.size : Int) - (x.f4.size : Int) < 0
    · exact ⟨-1, by rw [if_pos c1], by omega, by omega, by omega⟩
    · rw [if_neg c1, wrap_id (x := a - (x.f0.size : Int) - (x.f4.size : Int) - (x.f5.size : Int)) (by omega) (by omega)]
      by_cases c2 : a - (x.f0.size : Int) - (x.f4.size : Int) - (x.f5.size : Int) < 0
      · exact ⟨-1, by rw [if_pos c2], by omega, by omega, by omega⟩
      · exact ⟨_, by rw [if_neg c2], by omega, by omega, by omega⟩

end Go.Proofs.YtmcldfjfgmhklaaDoor.Lem
