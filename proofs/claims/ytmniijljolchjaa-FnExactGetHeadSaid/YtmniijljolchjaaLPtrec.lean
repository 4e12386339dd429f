/- Lemmas on the printed functions, of this session. -/
import Derived.Test.YtmniijljolchjaaY
import Derived.Test.YtmniijljolchjaaPtx0
import Derived.Test.YtmniijljolchjaaPtx1
import Derived.Test.YtmniijljolchjaaPtx2
namespace Go.Proofs.Ytmniijljolchjaa.Lem
open Go.RowKit Go.Proofs.Ytmniijljolchjaa.Pt Go.Proofs.Ytmniijljolchjaa.X Go.Proofs.Ytmniijljolchjaa.Y Go.Proofs.YtmniijljolchjaaW.PrintWords Go.Proofs.YtmniijljolchjaaW.PrintLast Go.Proofs.YtmniijljolchjaaW.PrintMore
set_option linter.unusedVariables false
set_option linter.unusedSimpArgs false
theorem rdR_getElem (l : List S73) (i : Nat) (h : i < l.length) : rd_T73 l i = l[i] := by
  unfold rd_T73
  rw [Int.toNat_natCast, List.getD_eq_getElem?_getD, List.getElem?_eq_getElem h, Option.getD_some]
theorem eqRecord_self (x : S73) : laws_eqRecord.f x.f0 x.f1 x.f2 x.f3 x.f4 x.f5 x.f0 x.f1 x.f2 x.f3 x.f4 x.f5 = some true := by
  unfold laws_eqRecord.f
  simp
theorem eqRecordS_loop (a : List S73) (hn : a.length ≤ 140737488351232) : ∀ (d i : Nat), i + d = a.length → Ev (fun k => laws_eqRecordS.l0 k a a (i : Int)) true := by
  intro d
  induction d with
  | zero =>
    intro i hi
    refine Ev.step (f := fun _ => some true) (fun k => ?_) ⟨0, fun _ _ => rfl⟩
    simp only [laws_eqRecordS.l0]
    rw [if_neg (by omega)]
  | succ d ih =>
    intro i hi
    have hw := wrap_succ i a.length (by omega) (by omega)
    refine Ev.step (f := fun k => laws_eqRecordS.l0 k a a ((i + 1 : Nat) : Int)) (fun k => ?_) (ih (i + 1) (by omega))
    simp only [laws_eqRecordS.l0]
    rw [if_pos (by omega), if_pos (by omega), if_pos (by omega), eqRecord_self, hw]
    rfl
theorem eqRecordS_same (a : List S73) (hn : a.length ≤ 140737488351232) : Ev (fun k => laws_eqRecordS.f k a a) true := by
  unfold laws_eqRecordS.f
  simp only [if_true]
  exact eqRecordS_loop a hn a.length 0 (by omega)

end Go.Proofs.Ytmniijljolchjaa.Lem
