/- Lemmas on the printed functions, of this session. -/
import Derived.Test.YtmcldfjfgmhklaaY
import Derived.Test.YtmcldfjfgmhklaaLmsg3
import Derived.Test.YtmcldfjfgmhklaaLrec
import Derived.Test.YtmcldfjfgmhklaaPrx0
import Derived.Test.YtmcldfjfgmhklaaPrx1
namespace Go.Proofs.Ytmcldfjfgmhklaa.Lem
open Go.RowKit Go.Proofs.Ytmcldfjfgmhklaa.Pr Go.Proofs.Ytmcldfjfgmhklaa.X Go.Proofs.Ytmcldfjfgmhklaa.Y Go.Proofs.YtmcldfjfgmhklaaW.PrintWords Go.Proofs.YtmcldfjfgmhklaaW.PrintLast Go.Proofs.YtmcldfjfgmhklaaW.PrintMore
set_option linter.unusedVariables false
set_option linter.unusedSimpArgs false
theorem toMsg_eq (a0 : Int) (a1 a2 a3 a4 a5 : Bool) (a6 : Int) (a7 : ByteArray) (a8 : Int) (l9 l10 l11 : List S49) (h9 : l9.length ≤ 1048576) (h10 : l10.length ≤ 1048576) (h11 : l11.length ≤ 1048576) :
    Ev (fun k => laws_toMsg.f k a0 a1 a2 a3 a4 a5 a6 a7 a8 l9 l10 l11) (a0, a1, a2, a3, a4, a5, a6, a7, a8, l9.map cvR, l10.map cvR, l11.map cvR) := by
  unfold laws_toMsg.f laws_toQuest.f
  simp only [Option.bind_some]
  refine Ev.bind (toRecordS_eq l9 h9) (Ev.bind (toRecordS_eq l10 h10) (Ev.bind (toRecordS_eq l11 h11) ?_))
  exact Ev.now _
/-- What a claim says of a list of records. -/
def okRs (l : List S49) : Prop := l.length ≤ 140737488351232 ∧ ∀ x ∈ l, okR x
theorem szMsg_eq (a0 : Int) (a1 a2 a3 a4 a5 : Bool) (a6 : Int) (a7 : ByteArray) (a8 : Int) (l9 l10 l11 : List S49) (h7 : a7.size ≤ 140737488351232) (h9 : okRs l9) (h10 : okRs l10) (h11 : okRs l11) :
    ∃ r, Ev (fun k => laws_szMsg.f k a0 a1 a2 a3 a4 a5 a6 a7 a8 l9 l10 l11 1048576) r ∧ -1 ≤ r ∧ r ≤ 1048576 ∧ (0 ≤ r → l9.length ≤ 1048576 ∧ l10.length ≤ 1048576 ∧ l11.length ≤ 1048576) := by
  unfold laws_szMsg.f
  obtain ⟨r0, e0, b0, c0⟩ := szQuest_eq a7 h7 a8
  simp only [e0, Option.bind_some]
  by_cases n0 : r0 < 0
  · refine ⟨-1, ?_, by omega, by omega, by omega⟩
    simp only [if_pos n0]
    exact Ev.now _
  · simp only [if_neg n0]
    obtain ⟨r1, e1, b1, c1, d1⟩ := szRecordS_eq l9 h9.1 h9.2 r0 (by omega)
    by_cases n1 : r1 < 0
    · refine ⟨-1, ?_, by omega, by omega, by omega⟩
      refine Ev.bind e1 ?_
      simp only [if_pos n1]
      exact Ev.now _
    · obtain ⟨r2, e2, b2, c2, d2⟩ := szRecordS_eq l10 h10.1 h10.2 r1 (by omega)
      by_cases n2 : r2 < 0
      · refine ⟨-1, ?_, by omega, by omega, by omega⟩
        refine Ev.bind e1 ?_
        simp only [if_neg n1]
        refine Ev.bind e2 ?_
        simp only [if_pos n2]
        exact Ev.now _
      · obtain ⟨r3, e3, b3, c3, d3⟩ := szRecordS_eq l11 h11.1 h11.2 r2 (by omega)
        by_cases n3 : r3 < 0
        · refine ⟨-1, ?_, by omega, by omega, by omega⟩
          refine Ev.bind e1 ?_
          simp only [if_neg n1]
          refine Ev.bind e2 ?_
          simp only [if_neg n2]
          refine Ev.bind e3 ?_
          simp only [if_pos n3]
          exact Ev.now _
        · have f1 := d1 (by omega)
          have f2 := d2 (by omega)
          have f3 := d3 (by omega)
          refine ⟨r3, ?_, b3, c3, fun _ => by omega⟩
          refine Ev.bind e1 ?_
          simp only [if_neg n1]
          refine Ev.bind e2 ?_
          simp only [if_neg n2]
          refine Ev.bind e3 ?_
          simp only [if_neg n3]
          exact Ev.now _
theorem g_okM {a0 : Int} {a1 a2 a3 a4 a5 : Bool} {a6 : Int} {a7 : ByteArray} {a8 : Int} {l9 l10 l11 : List S49} (h : g26 (⟨a0, a1, a2, a3, a4, a5, a6, (⟨a7, a8⟩ : S23), l9, l10, l11⟩ : S26)) :
    a7.size ≤ 140737488351232 ∧ okRs l9 ∧ okRs l10 ∧ okRs l11 := by
  obtain ⟨_, _, _, _, _, _, _, q, ⟨_, m9, w9⟩, ⟨_, m10, w10⟩, ⟨_, m11, w11⟩⟩ := h
  have n9 : l9.length * 72 ≤ 140737488351232 := m9
  have n10 : l10.length * 72 ≤ 140737488351232 := m10
  have n11 : l11.length * 72 ≤ 140737488351232 := m11
  exact ⟨q.1, ⟨by omega, fun x hx => g_okR (w9 x hx)⟩, ⟨by omega, fun x hx => g_okR (w10 x hx)⟩, ⟨by omega, fun x hx => g_okR (w11 x hx)⟩⟩

end Go.Proofs.Ytmcldfjfgmhklaa.Lem
