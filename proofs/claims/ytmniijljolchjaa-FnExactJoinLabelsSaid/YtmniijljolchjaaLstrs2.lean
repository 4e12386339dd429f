/- Lemmas on the printed functions, of this session. -/
import Derived.Test.YtmniijljolchjaaY
import Derived.Test.YtmniijljolchjaaLstrs
import Derived.Test.YtmniijljolchjaaPrx8
namespace Go.Proofs.Ytmniijljolchjaa.Lem
open Go.RowKit Go.Proofs.Ytmniijljolchjaa.Pr Go.Proofs.Ytmniijljolchjaa.X Go.Proofs.Ytmniijljolchjaa.Y Go.Proofs.YtmniijljolchjaaW.PrintWords Go.Proofs.YtmniijljolchjaaW.PrintLast Go.Proofs.YtmniijljolchjaaW.PrintMore
set_option linter.unusedVariables false
set_option linter.unusedSimpArgs false
theorem szStringS_loop (l : List ByteArray) (hn : l.length ≤ 1048576) (hg : ∀ x ∈ l, x.size ≤ 140737488351232) : ∀ (d i : Nat) (a : Int), i + d = l.length → 0 ≤ a ∧ a ≤ 1048576 →
    ∃ r, Ev (fun k => laws_szStringS.l0 k l a (i : Int)) r ∧ -1 ≤ r ∧ r ≤ 1048576 ∧ (0 ≤ r → r = a - szSs (l.drop i)) := by
  intro d
  induction d with
  | zero =>
    intro i a hi ha
    refine ⟨a, Ev.step (f := fun _ => some a) (fun k => ?_) ⟨0, fun _ _ => rfl⟩, by omega, by omega, fun _ => ?_⟩
    · simp only [laws_szStringS.l0]
      rw [if_neg (by omega)]
    · rw [List.drop_of_length_le (by omega)]
      simp [szSs]
  | succ d ih =>
    intro i a hi ha
    have hil : i < l.length := by omega
    have hw := wrap_succ i l.length hil (by omega)
    have hsz := hg _ (List.getElem_mem hil)
    have hd : l.drop i = l[i] :: l.drop (i + 1) := List.drop_eq_getElem_cons hil
    have hwr : wrap64 (a - (l[i].size : Int)) = a - (l[i].size : Int) := wrap_id (by omega) (by omega)
    by_cases c : a - (l[i].size : Int) < 0
    · refine ⟨-1, Ev.step (f := fun _ => some (-1)) (fun k => ?_) ⟨0, fun _ _ => rfl⟩, by omega, by omega, by omega⟩
      simp only [laws_szStringS.l0]
      rw [if_pos (by omega), if_pos (by omega), rdS_getElem l i hil, hwr, if_pos c]
    · obtain ⟨q, hq, q0, q1, q2⟩ := ih (i + 1) (a - (l[i].size : Int)) (by omega) (by omega)
      refine ⟨q, Ev.step (f := fun k => laws_szStringS.l0 k l (a - (l[i].size : Int)) ((i + 1 : Nat) : Int)) (fun k => ?_) hq, q0, q1, fun z => ?_⟩
      · simp only [laws_szStringS.l0]
        rw [if_pos (by omega), if_pos (by omega), rdS_getElem l i hil, hwr, if_neg c, hw]
      · have e1 := q2 z
        have e3 : szSs (l.drop i) = l[i].size + szSs (l.drop (i + 1)) := by unfold szSs; rw [hd, List.map_cons, List.sum_cons]
        rw [e3]
        omega
theorem szStringS_eq (l : List ByteArray) (hm : l.length ≤ 140737488351232) (hg : ∀ x ∈ l, x.size ≤ 140737488351232) (a : Int) (ha : 0 ≤ a ∧ a ≤ 1048576) :
    ∃ r, Ev (fun k => laws_szStringS.f k l a) r ∧ -1 ≤ r ∧ r ≤ 1048576 ∧ (0 ≤ r → r = a - (l.length + szSs l)) := by
  unfold laws_szStringS.f
  have hw : wrap64 (a - (l.length : Int)) = a - (l.length : Int) := wrap_id (by omega) (by omega)
  simp only [hw]
  by_cases c : a - (l.length : Int) < 0
  · refine ⟨-1, ?_, by omega, by omega, by omega⟩
    simp only [if_pos c]
    exact Ev.now _
  · simp only [if_neg c]
    obtain ⟨r, hr, r0, r1, r2⟩ := szStringS_loop l (by omega) hg l.length 0 (a - (l.length : Int)) (by omega) (by omega)
    refine ⟨r, by simpa using hr, r0, r1, fun z => ?_⟩
    have := r2 z
    rw [List.drop_zero] at this
    omega

end Go.Proofs.Ytmniijljolchjaa.Lem
