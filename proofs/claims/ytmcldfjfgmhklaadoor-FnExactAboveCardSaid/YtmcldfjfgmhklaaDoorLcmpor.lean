/- Lemmas on the printed functions, of this session. -/
import Derived.Test.YtmcldfjfgmhklaaDoorY
import Derived.Test.YtmcldfjfgmhklaaDoorPrx0
import Derived.Test.YtmcldfjfgmhklaaDoorPrx13
namespace Go.Proofs.YtmcldfjfgmhklaaDoor.Lem
open Go.RowKit Go.Proofs.YtmcldfjfgmhklaaDoor.Pr Go.Proofs.YtmcldfjfgmhklaaDoor.X Go.Proofs.YtmcldfjfgmhklaaDoor.Y Go.Proofs.YtmcldfjfgmhklaaDoorW.PrintWords Go.Proofs.YtmcldfjfgmhklaaDoorW.PrintLast Go.Proofs.YtmcldfjfgmhklaaDoorW.PrintMore
set_option linter.unusedVariables false
set_option linter.unusedSimpArgs false
/-- The first number that is not 0. -/
def orL : List Int → Int
  | [] => 0
  | x :: l => if x = 0 then orL l else x
theorem orL_cons (x : Int) (l : List Int) : orL (x :: l) = if x = 0 then orL l else x := rfl
theorem cmp_Or_loop (l : List Int) (hn : l.length ≤ 1000) : ∀ (d i : Nat), i + d = l.length → Ev (fun k => cmp_Or_int.l0 k 0 l (l.length : Int) (i : Int)) (orL (l.drop i)) := by
  intro d
  induction d with
  | zero =>
    intro i hi
    rw [show l.drop i = [] from List.drop_of_length_le (by omega)]
    refine Ev.step (f := fun _ => some 0) (fun k => ?_) ⟨0, fun _ _ => rfl⟩
    simp only [cmp_Or_int.l0]
    rw [if_neg (by omega)]
  | succ d ih =>
    intro i hi
    have hw := wrap_succ i l.length (by omega) (by omega)
    rw [rd_drop l i (by omega)]
    by_cases c : rd l i = 0
    · refine Ev.step (f := fun k => cmp_Or_int.l0 k 0 l (l.length : Int) ((i + 1 : Nat) : Int)) (fun k => ?_) ?_
      · simp only [cmp_Or_int.l0]
        rw [if_pos (by omega), if_pos (by omega), if_pos (by omega), if_pos c, hw]
      · unfold orL
        rw [if_pos c]
        exact ih (i + 1) (by omega)
    · refine Ev.step (f := fun _ => some (rd l i)) (fun k => ?_) ⟨0, fun _ _ => ?_⟩
      · simp only [cmp_Or_int.l0]
        rw [if_pos (by omega), if_pos (by omega), if_pos (by omega), if_neg c]
      · unfold orL
        rw [if_neg c]
theorem cmp_Or_eq (l : List Int) (hn : l.length ≤ 1000) : Ev (fun k => cmp_Or_int.f k l) (orL l) := by
  have := cmp_Or_loop l hn l.length 0 (by omega)
  unfold cmp_Or_int.f
  simpa using this

end Go.Proofs.YtmcldfjfgmhklaaDoor.Lem
