/- Lemmas on the printed functions, of this session. -/
import Derived.Test.YtmcldfjfgmhklaaY
import Derived.Test.YtmcldfjfgmhklaaPrx0
import Derived.Test.YtmcldfjfgmhklaaPrx1
import Derived.Test.YtmcldfjfgmhklaaPrx2
namespace Go.Proofs.Ytmcldfjfgmhklaa.Lem
open Go.RowKit Go.Proofs.Ytmcldfjfgmhklaa.Pr Go.Proofs.Ytmcldfjfgmhklaa.X Go.Proofs.Ytmcldfjfgmhklaa.Y Go.Proofs.YtmcldfjfgmhklaaW.PrintWords Go.Proofs.YtmcldfjfgmhklaaW.PrintLast Go.Proofs.YtmcldfjfgmhklaaW.PrintMore
set_option linter.unusedVariables false
set_option linter.unusedSimpArgs false
/-- What a claim reads as a record, as the program's own type. -/
def cvR (x : S49) : S52 := ⟨x.f0, x.f1, x.f2, x.f3, x.f4, x.f5⟩
theorem rdR_getElem (l : List S52) (i : Nat) (h : i < l.length) : rd_T52 l i = l[i] := by
  unfold rd_T52
  rw [Int.toNat_natCast, List.getD_eq_getElem?_getD, List.getElem?_eq_getElem h, Option.getD_some]
theorem rdL_getElem (l : List S49) (i : Nat) (h : i < l.length) : rd_T49 l i = l[i] := by
  unfold rd_T49
  rw [Int.toNat_natCast, List.getD_eq_getElem?_getD, List.getElem?_eq_getElem h, Option.getD_some]
theorem toRecordS_loop (l : List S49) (hn : l.length ≤ 140737488351232) : ∀ (d i : Nat) (acc : List S52), i + d = l.length → acc.length = l.length → acc.take i = (l.take i).map cvR →
    Ev (fun k => laws_toRecordS.l0 k l acc (i : Int)) (l.map cvR) := by
  intro d
  induction d with
  | zero =>
    intro i acc hi hl ht
    refine Ev.step (f := fun _ => some acc) (fun k => ?_) ⟨0, fun _ _ => ?_⟩
    · simp only [laws_toRecordS.l0]
      rw [if_neg (by omega)]
    · rw [List.take_of_length_le (by omega), List.take_of_length_le (by omega)] at ht
      rw [ht]
  | succ d ih =>
    intro i acc hi hl ht
    have hw := wrap_succ i l.length (by omega) (by omega)
    refine Ev.step (f := fun k => laws_toRecordS.l0 k l (acc.set i (cvR (rd_T49 l i))) ((i + 1 : Nat) : Int)) (fun k => ?_) (ih (i + 1) _ (by omega) (by simpa using hl) ?_)
    · simp only [laws_toRecordS.l0]
      rw [if_pos (by omega), if_pos (by omega)]
      unfold laws_toRecord.f
      simp only [Option.bind_some]
      rw [if_pos (by omega), hw, Int.toNat_natCast]
      rfl
    · have hil : i < l.length := by omega
      rw [List.take_add_one, List.take_add_one, List.take_set_of_le (Nat.le_refl _), ht, List.getElem?_set_self (by omega), List.getElem?_eq_getElem hil, rdL_getElem l i hil, List.map_append]
      rfl
theorem toRecordS_eq (l : List S49) (hn : l.length ≤ 1048576) : Ev (fun k => laws_toRecordS.f k l) (l.map cvR) := by
  unfold laws_toRecordS.f
  have h0 : 0 ≤ (l.length : Int) := by omega
  have h1 : ((l.length : Int) : Int).toNat ≤ 3909374676536 := by omega
  simp only [if_pos h0, if_pos h1]
  have := toRecordS_loop l (by omega) l.length 0 (List.replicate ((l.length : Int) : Int).toNat z52) (by omega) (by simp) (by simp)
  simpa using this
theorem eqRecord_self (x : S52) : laws_eqRecord.f x.f0 x.f1 x.f2 x.f3 x.f4 x.f5 x.f0 x.f1 x.f2 x.f3 x.f4 x.f5 = some true := by
  unfold laws_eqRecord.f
  simp
theorem eqRecordS_loop (a : List S52) (hn : a.length ≤ 140737488351232) : ∀ (d i : Nat), i + d = a.length → Ev (fun k => laws_eqRecordS.l0 k a a (i : Int)) true := by
  intro d
  induction d with
  | zero =>
    intro i hi
    refine Ev.step (f := fun _ => some true) (fun k => ?_) ⟨0, fun _ _ => rfl⟩
    simp only [laws_eqRecordS.l0]
    rw [if_neg (by omega)]
  | succ d ih =>
    intro i hi
    have hw := wrap_succ i a.length (by omega) (by omega)
    refine Ev.step (f := fun k => laws_eqRecordS.l0 k a a ((i + 1 : Nat) : Int)) (fun k => ?_) (ih (i + 1) (by omega))
    simp only [laws_eqRecordS.l0]
    rw [if_pos (by omega), if_pos (by omega), if_pos (by omega), eqRecord_self, hw]
    rfl
theorem eqRecordS_same (a : List S52) (hn : a.length ≤ 140737488351232) : Ev (fun k => laws_eqRecordS.f k a a) true := by
  unfold laws_eqRecordS.f
  simp only [if_true]
  exact eqRecordS_loop a hn a.length 0 (by omega)
/-- How much a record takes, as the laws count it. -/
def szR (x : S49) : Nat := x.f0.size + x.f4.size + x.f5.size
def szRs (l : List S49) : Nat := (l.map szR).sum
/-- What is known of a record's strings. -/
def okR (x : S49) : Prop := x.f0.size ≤ 140737488351232 ∧ x.f4.size ≤ 140737488351232 ∧ x.f5.size ≤ 140737488351232
theorem g_okR {x : S49} (h : g49 x) : okR x := by
  obtain ⟨h0, _, _, _, h4, h5⟩ := h
  exact ⟨h0, h4, h5⟩
theorem szRecord_eq (x : S49) (h : okR x) (a : Int) (ha : -1 ≤ a ∧ a ≤ 1048576) : ∃ r, laws_szRecord.f x.f0 x.f1 x.f2 x.f3 x.f4 x.f5 a = some r ∧ -1 ≤ r ∧ r ≤ 1048576 ∧ (0 ≤ r → r = a - szR x) := by
  obtain ⟨h0, h4, h5⟩ := h
  unfold laws_szRecord.f szR
  rw [wrap_id (x := a - (x.f0.size : Int)) (by omega) (by omega)]
  by_cases c0 : a - (x.f0.size : Int) < 0
  · exact ⟨-1, by rw [if_pos c0], by omega, by omega, by omega⟩
  · rw [if_neg c0, wrap_id (x := a - (x.f0.size : Int) - (x.f4.size : Int)) (by omega) (by omega)]
    by_cases c1 : a - (x.f0.size : Int) - (x.f4.size : Int) < 0
    · exact ⟨-1, by rw [if_pos c1], by omega, by omega, by omega⟩
    · rw [if_neg c1, wrap_id (x := a - (x.f0.size : Int) - (x.f4.size : Int) - (x.f5.size : Int)) (by omega) (by omega)]
      by_cases c2 : a - (x.f0.size : Int) - (x.f4.size : Int) - (x.f5.size : Int) < 0
      · exact ⟨-1, by rw [if_pos c2], by omega, by omega, by omega⟩
      · exact ⟨_, by rw [if_neg c2], by omega, by omega, by omega⟩
theorem szRecordS_loop (l : List S49) (hn : l.length ≤ 1048576) (hg : ∀ x ∈ l, okR x) : ∀ (d i : Nat) (a : Int), i + d = l.length → 0 ≤ a ∧ a ≤ 1048576 →
    ∃ r, Ev (fun k => laws_szRecordS.l0 k l a (i : Int)) r ∧ -1 ≤ r ∧ r ≤ 1048576 ∧ (0 ≤ r → r = a - szRs (l.drop i)) := by
  intro d
  induction d with
  | zero =>
    intro i a hi ha
    refine ⟨a, Ev.step (f := fun _ => some a) (fun k => ?_) ⟨0, fun _ _ => rfl⟩, by omega, by omega, fun _ => ?_⟩
    · simp only [laws_szRecordS.l0]
      rw [if_neg (by omega)]
    · rw [List.drop_of_length_le (by omega)]
      simp [szRs]
  | succ d ih =>
    intro i a hi ha
    have hil : i < l.length := by omega
    have hw := wrap_succ i l.length hil (by omega)
    obtain ⟨r, hr, r0, r1, r2⟩ := szRecord_eq l[i] (hg _ (List.getElem_mem _)) a (by omega)
    have hd : l.drop i = l[i] :: l.drop (i + 1) := List.drop_eq_getElem_cons hil
    by_cases c : r < 0
    · refine ⟨-1, Ev.step (f := fun _ => some (-1)) (fun k => ?_) ⟨0, fun _ _ => rfl⟩, by omega, by omega, by omega⟩
      simp only [laws_szRecordS.l0]
      rw [if_pos (by omega), if_pos (by omega), rdL_getElem l i hil, hr]
      simp only [Option.bind_some]
      rw [if_pos c]
    · obtain ⟨q, hq, q0, q1, q2⟩ := ih (i + 1) r (by omega) (by omega)
      refine ⟨q, Ev.step (f := fun k => laws_szRecordS.l0 k l r ((i + 1 : Nat) : Int)) (fun k => ?_) hq, q0, q1, fun z => ?_⟩
      · simp only [laws_szRecordS.l0]
        rw [if_pos (by omega), if_pos (by omega), rdL_getElem l i hil, hr]
        simp only [Option.bind_some]
        rw [if_neg c, hw]
      · have e1 := q2 z
        have e2 := r2 (by omega)
        have e3 : szRs (l.drop i) = szR l[i] + szRs (l.drop (i + 1)) := by unfold szRs; rw [hd, List.map_cons, List.sum_cons]
        rw [e3]
        omega
theorem szRecordS_eq (l : List S49) (hm : l.length ≤ 140737488351232) (hg : ∀ x ∈ l, okR x) (a : Int) (ha : 0 ≤ a ∧ a ≤ 1048576) :
    ∃ r, Ev (fun k => laws_szRecordS.f k l a) r ∧ -1 ≤ r ∧ r ≤ 1048576 ∧ (0 ≤ r → r = a - (l.length + szRs l)) := by
  unfold laws_szRecordS.f
  have hw : wrap64 (a - (l.length : Int)) = a - (l.length : Int) := wrap_id (by omega) (by omega)
  simp only [hw]
  by_cases c : a - (l.length : Int) < 0
  · refine ⟨-1, ?_, by omega, by omega, by omega⟩
    simp only [if_pos c]
    exact Ev.now _
  · simp only [if_neg c]
    obtain ⟨r, hr, r0, r1, r2⟩ := szRecordS_loop l (by omega) hg l.length 0 (a - (l.length : Int)) (by omega) (by omega)
    refine ⟨r, by simpa using hr, r0, r1, fun z => ?_⟩
    have := r2 z
    rw [List.drop_zero] at this
    omega

end Go.Proofs.Ytmcldfjfgmhklaa.Lem
