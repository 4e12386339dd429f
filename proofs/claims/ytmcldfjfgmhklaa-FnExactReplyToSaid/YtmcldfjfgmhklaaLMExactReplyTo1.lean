/- Lemmas on the printed functions, of this session. -/
import Derived.Test.YtmcldfjfgmhklaaY
import Derived.Test.YtmcldfjfgmhklaaPrx0
import Derived.Test.YtmcldfjfgmhklaaPrx1
import Derived.Test.YtmcldfjfgmhklaaPrx2
import Derived.Test.YtmcldfjfgmhklaaPrx3
import Derived.Test.YtmcldfjfgmhklaaPrx4
import Derived.Test.YtmcldfjfgmhklaaPrx5
namespace Go.Proofs.Ytmcldfjfgmhklaa.Lem
open Go.RowKit Go.Proofs.Ytmcldfjfgmhklaa.Pr Go.Proofs.Ytmcldfjfgmhklaa.X Go.Proofs.Ytmcldfjfgmhklaa.Y Go.Proofs.YtmcldfjfgmhklaaW.PrintWords Go.Proofs.YtmcldfjfgmhklaaW.PrintLast Go.Proofs.YtmcldfjfgmhklaaW.PrintMore
set_option linter.unusedVariables false
set_option linter.unusedSimpArgs false
theorem Ev_c {α : Type} {o : Option α} {x : α} (h : o = some x) : Ev (fun _ => o) x := ⟨0, fun _ _ => h⟩
theorem Ev_if {α : Type} {c : Prop} [Decidable c] {f g : Nat → Option α} {x : α} (h : c) (h1 : Ev f x) : Ev (fun k => if c then f k else g k) x := by
  simp only [if_pos h]
  exact h1
theorem Ev_ifn {α : Type} {c : Prop} [Decidable c] {f g : Nat → Option α} {x : α} (h : ¬ c) (h1 : Ev g x) : Ev (fun k => if c then f k else g k) x := by
  simp only [if_neg h]
  exact h1
/-- What a claim reads as a record, as the program's own type. -/
def cvR (x : S49) : S52 := ⟨x.f0, x.f1, x.f2, x.f3, x.f4, x.f5⟩
theorem rdR_getElem (l : List S52) (i : Nat) (h : i < l.length) : rd_T52 l i = l[i] := by
  unfold rd_T52
  rw [Int.toNat_natCast, List.getD_eq_getElem?_getD, List.getElem?_eq_getElem h, Option.getD_some]
theorem rdL_getElem (l : List S49) (i : Nat) (h : i < l.length) : rd_T49 l i = l[i] := by
  unfold rd_T49
  rw [Int.toNat_natCast, List.getD_eq_getElem?_getD, List.getElem?_eq_getElem h, Option.getD_some]
theorem toRecordS_loop (l : List S49) (hn : l.length ≤ 140737488351232) : ∀ (d i : Nat) (acc : List S52), i + d = l.length → acc.length = l.length → acc.take i = (l.take i).map cvR →
    Ev (fun k => laws_toRecordS.l0 k l acc (i : Int)) (l.map cvR) := by
  intro d
  induction d with
  | zero =>
    intro i acc hi hl ht
    refine Ev.step (f := fun _ => some acc) (fun k => ?_) ⟨0, fun _ _ => ?_⟩
    · simp only [laws_toRecordS.l0]
      rw [if_neg (by omega)]
    · rw [List.take_of_length_le (by omega), List.take_of_length_le (by omega)] at ht
      rw [ht]
  | succ d ih =>
    intro i acc hi hl ht
    have hw := wrap_succ i l.length (by omega) (by omega)
    refine Ev.step (f := fun k => laws_toRecordS.l0 k l (acc.set i (cvR (rd_T49 l i))) ((i + 1 : Nat) : Int)) (fun k => ?_) (ih (i + 1) _ (by omega) (by simpa using hl) ?_)
    · simp only [laws_toRecordS.l0]
      rw [if_pos (by omega), if_pos (by omega)]
      unfold laws_toRecord.f
      simp only [Option.bind_some]
      rw [if_pos (by omega), hw, Int.toNat_natCast]
      rfl
    · have hil : i < l.length := by omega
      rw [List.take_add_one, List.take_add_one, List.take_set_of_le (Nat.le_refl _), ht, List.getElem?_set_self (by omega), List.getElem?_eq_getElem hil, rdL_getElem l i hil, List.map_append]
      rfl
theorem toRecordS_eq (l : List S49) (hn : l.length ≤ 1048576) : Ev (fun k => laws_toRecordS.f k l) (l.map cvR) := by
  unfold laws_toRecordS.f
  have h0 : 0 ≤ (l.length : Int) := by omega
  have h1 : ((l.length : Int) : Int).toNat ≤ 3909374676536 := by omega
  simp only [if_pos h0, if_pos h1]
  have := toRecordS_loop l (by omega) l.length 0 (List.replicate ((l.length : Int) : Int).toNat z52) (by omega) (by simp) (by simp)
  simpa using this
theorem eqRecord_self (x : S52) : laws_eqRecord.f x.f0 x.f1 x.f2 x.f3 x.f4 x.f5 x.f0 x.f1 x.f2 x.f3 x.f4 x.f5 = some true := by
  unfold laws_eqRecord.f
  simp
theorem eqRecordS_loop (a : List S52) (hn : a.length ≤ 140737488351232) : ∀ (d i : Nat), i + d = a.length → Ev (fun k => laws_eqRecordS.l0 k a a (i : Int)) true := by
  intro d
  induction d with
  | zero =>
    intro i hi
    refine Ev.step (f := fun _ => some true) (fun k => ?_) ⟨0, fun _ _ => rfl⟩
    simp only [laws_eqRecordS.l0]
    rw [if_neg (by omega)]
  | succ d ih =>
    intro i hi
    have hw := wrap_succ i a.length (by omega) (by omega)
    refine Ev.step (f := fun k => laws_eqRecordS.l0 k a a ((i + 1 : Nat) : Int)) (fun k => ?_) (ih (i + 1) (by omega))
    simp only [laws_eqRecordS.l0]
    rw [if_pos (by omega), if_pos (by omega), if_pos (by omega), eqRecord_self, hw]
    rfl
theorem eqRecordS_same (a : List S52) (hn : a.length ≤ 140737488351232) : Ev (fun k => laws_eqRecordS.f k a a) true := by
  unfold laws_eqRecordS.f
  simp only [if_true]
  exact eqRecordS_loop a hn a.length 0 (by omega)
/-- How much a record takes, as the laws count it. -/
def szR (x : S49) : Nat := x.f0.size + x.f4.size + x.f5.size
def szRs (l : List S49) : Nat := (l.map szR).sum
/-- What is known of a record's strings. -/
def okR (x : S49) : Prop := x.f0.size ≤ 140737488351232 ∧ x.f4.size ≤ 140737488351232 ∧ x.f5.size ≤ 140737488351232
theorem g_okR {x : S49} (h : g49 x) : okR x := by
  obtain ⟨h0, _, _, _, h4, h5⟩ := h
  exact ⟨h0, h4, h5⟩
theorem szRecord_eq (x : S49) (h : okR x) (a : Int) (ha : -1 ≤ a ∧ a ≤ 1048576) : ∃ r, laws_szRecord.f x.f0 x.f1 x.f2 x.f3 x.f4 x.f5 a = some r ∧ -1 ≤ r ∧ r ≤ 1048576 ∧ (0 ≤ r → r = a - szR x) := by
  obtain ⟨h0, h4, h5⟩ := h
  unfold laws_szRecord.f szR
  rw [wrap_id (x := a - (x.f0.size : Int)) (by omega) (by omega)]
  by_cases c0 : a - (x.f0.size : Int) < 0
  · exact ⟨-1, by rw [if_pos c0], by omega, by omega, by omega⟩
  · rw [if_neg c0, wrap_id (x := a - (x.f0.size : Int) - (x.f4.size : Int)) (by omega) (by omega)]
    by_cases c1 : a - (x.f0.size : Int) - (x.f4.size : Int) < 0
    · exact ⟨-1, by rw [if_pos c1], by omega, by omega, by omega⟩
    · rw [if_neg c1, wrap_id (x := a - (x.f0.size : Int) - (x.f4.size : Int) - (x.f5.size : Int)) (by omega) (by omega)]
      by_cases c2 : a - (x.f0.size : Int) - (x.f4.size : Int) - (x.f5.size : Int) < 0
      · exact ⟨-1, by rw [if_pos c2], by omega, by omega, by omega⟩
      · exact ⟨_, by rw [if_neg c2], by omega, by omega, by omega⟩
theorem szRecordS_loop (l : List S49) (hn : l.length ≤ 1048576) (hg : ∀ x ∈ l, okR x) : ∀ (d i : Nat) (a : Int), i + d = l.length → 0 ≤ a ∧ a ≤ 1048576 →
    ∃ r, Ev (fun k => laws_szRecordS.l0 k l a (i : Int)) r ∧ -1 ≤ r ∧ r ≤ 1048576 ∧ (0 ≤ r → r = a - szRs (l.drop i)) := by
  intro d
  induction d with
  | zero =>
    intro i a hi ha
    refine ⟨a, Ev.step (f := fun _ => some a) (fun k => ?_) ⟨0, fun _ _ => rfl⟩, by omega, by omega, fun _ => ?_⟩
    · simp only [laws_szRecordS.l0]
      rw [if_neg (by omega)]
    · rw [List.drop_of_length_le (by omega)]
      simp [szRs]
  | succ d ih =>
    intro i a hi ha
    have hil : i < l.length := by omega
    have hw := wrap_succ i l.length hil (by omega)
    obtain ⟨r, hr, r0, r1, r2⟩ := szRecord_eq l[i] (hg _ (List.getElem_mem _)) a (by omega)
    have hd : l.drop i = l[i] :: l.drop (i + 1) := List.drop_eq_getElem_cons hil
    by_cases c : r < 0
    · refine ⟨-1, Ev.step (f := fun _ => some (-1)) (fun k => ?_) ⟨0, fun _ _ => rfl⟩, by omega, by omega, by omega⟩
      simp only [laws_szRecordS.l0]
      rw [if_pos (by omega), if_pos (by omega), rdL_getElem l i hil, hr]
      simp only [Option.bind_some]
      rw [if_pos c]
    · obtain ⟨q, hq, q0, q1, q2⟩ := ih (i + 1) r (by omega) (by omega)
      refine ⟨q, Ev.step (f := fun k => laws_szRecordS.l0 k l r ((i + 1 : Nat) : Int)) (fun k => ?_) hq, q0, q1, fun z => ?_⟩
      · simp only [laws_szRecordS.l0]
        rw [if_pos (by omega), if_pos (by omega), rdL_getElem l i hil, hr]
        simp only [Option.bind_some]
        rw [if_neg c, hw]
      · have e1 := q2 z
        have e2 := r2 (by omega)
        have e3 : szRs (l.drop i) = szR l[i] + szRs (l.drop (i + 1)) := by unfold szRs; rw [hd, List.map_cons, List.sum_cons]
        rw [e3]
        omega
theorem szRecordS_eq (l : List S49) (hm : l.length ≤ 140737488351232) (hg : ∀ x ∈ l, okR x) (a : Int) (ha : 0 ≤ a ∧ a ≤ 1048576) :
    ∃ r, Ev (fun k => laws_szRecordS.f k l a) r ∧ -1 ≤ r ∧ r ≤ 1048576 ∧ (0 ≤ r → r = a - (l.length + szRs l)) := by
  unfold laws_szRecordS.f
  have hw : wrap64 (a - (l.length : Int)) = a - (l.length : Int) := wrap_id (by omega) (by omega)
  simp only [hw]
  by_cases c : a - (l.length : Int) < 0
  · refine ⟨-1, ?_, by omega, by omega, by omega⟩
    simp only [if_pos c]
    exact Ev.now _
  · simp only [if_neg c]
    obtain ⟨r, hr, r0, r1, r2⟩ := szRecordS_loop l (by omega) hg l.length 0 (a - (l.length : Int)) (by omega) (by omega)
    refine ⟨r, by simpa using hr, r0, r1, fun z => ?_⟩
    have := r2 z
    rw [List.drop_zero] at this
    omega
theorem eqQuest_self (a : ByteArray) (b : Int) : laws_eqQuest.f a b a b = some true := by
  unfold laws_eqQuest.f
  simp
theorem eqMsg_same (a0 : Int) (a1 a2 a3 a4 a5 : Bool) (a6 : Int) (a7 : ByteArray) (a8 : Int) (l9 l10 l11 : List S52) (h9 : l9.length ≤ 140737488351232) (h10 : l10.length ≤ 140737488351232) (h11 : l11.length ≤ 140737488351232) :
    Ev (fun k => laws_eqMsg.f k a0 a1 a2 a3 a4 a5 a6 a7 a8 l9 l10 l11 a0 a1 a2 a3 a4 a5 a6 a7 a8 l9 l10 l11) true := by
  unfold laws_eqMsg.f
  simp only [if_true, bne_self_eq_false, if_neg (show ¬ (false = true) by decide), eqQuest_self, Option.bind_some]
  refine Ev.bind (eqRecordS_same l9 h9) ?_
  simp only [if_true]
  refine Ev.bind (eqRecordS_same l10 h10) ?_
  simp only [if_true]
  refine Ev.bind (eqRecordS_same l11 h11) ?_
  simp only [if_true]
  exact Ev.now _
/-- What the laws write into a text: m and digits. -/
def mt (a : Int) : ByteArray := if a ≤ 0 then (⟨#[109, 48]⟩ : ByteArray) else strOfNums (109 :: decZ a.toNat)
theorem markText_loop : ∀ (m : Nat) (s : List Int), m ≤ 4000000000000000000 → (decZ m).length + s.length ≤ 100 → Ev (fun k => laws_markText.l0 k (m : Int) (strOfNums s)) (strOfNums (109 :: (decZ m ++ s))) := by
  intro m
  induction m using Nat.strongRecOn with
  | _ m ih =>
    intro s hm hl
    by_cases hz : m = 0
    · subst hz
      refine Ev.step (f := fun _ => some (strOfNums (109 :: s))) (fun k => ?_) ⟨0, fun _ _ => by rw [decZ_zero, List.nil_append]⟩
      simp only [laws_markText.l0]
      rw [if_neg (by omega), if_pos (by rw [strOfNums_size]; omega), show (109 :: s) = [109] ++ s from rfl, strOfNums_append]
      rfl
    · have hd := decZ_pos m hz
      have hl2 : (decZ m).length = (decZ (m / 10)).length + 1 := by rw [hd, List.length_append]; rfl
      have := ih (m / 10) (by omega) ((48 + ((m % 10 : Nat) : Int)) :: s) (by omega) (by rw [List.length_cons]; omega)
      have e : decZ (m / 10) ++ (48 + ((m % 10 : Nat) : Int)) :: s = decZ m ++ s := by rw [hd, List.append_assoc]; rfl
      rw [e] at this
      refine Ev.step (f := fun k => laws_markText.l0 k ((m / 10 : Nat) : Int) (strOfNums ((48 + ((m % 10 : Nat) : Int)) :: s))) (fun k => ?_) this
      simp only [laws_markText.l0]
      rw [if_pos (by omega), tmod_pos, tdiv_pos]
      have w1 : wrap64 (48 + ((m % 10 : Nat) : Int)) % 256 = 48 + ((m % 10 : Nat) : Int) := by rw [wrap_id (by omega) (by omega)]; omega
      have w2 : wrap64 ((m / 10 : Nat) : Int) = ((m / 10 : Nat) : Int) := wrap_id (by omega) (by omega)
      rw [w1, w2]
      simp only [Option.bind_some]
      rw [if_pos (by rw [strOfNums_size, strOfNums_size]; simp; omega), ← strOfNums_append]
      rfl
theorem markText_eq (a : Int) (ha : a ≤ 4000000000000000000) : Ev (fun k => laws_markText.f k a) (mt a) := by
  unfold laws_markText.f mt
  by_cases h : a ≤ 0
  · simp only [if_pos h]
    exact Ev.now _
  · simp only [if_neg h]
    have := markText_loop a.toNat [] (by omega) (by have := decZ_le a.toNat (by omega); simp; omega)
    rw [show ((a.toNat : Int)) = a by omega, List.append_nil] at this
    exact this
/-- What the laws write into records. -/
def recMarks : Nat → Int → List S52
  | 0, _ => []
  | n + 1, a => ⟨mt a, a + 1, a + 1 + 1, a + 1 + 1 + 1, mt (a + 1 + 1 + 1 + 1), mt (a + 1 + 1 + 1 + 1 + 1)⟩ :: recMarks n (a + 6)
theorem recMarks_length : ∀ (n : Nat) (a : Int), (recMarks n a).length = n
  | 0, _ => rfl
  | n + 1, a => by rw [recMarks, List.length_cons, recMarks_length n]
theorem recMarks_snoc : ∀ (n : Nat) (a b : Int), b = a + 6 * n → recMarks (n + 1) a = recMarks n a ++ [⟨mt b, b + 1, b + 1 + 1, b + 1 + 1 + 1, mt (b + 1 + 1 + 1 + 1), mt (b + 1 + 1 + 1 + 1 + 1)⟩]
  | 0, a, b, h => by
    have e : b = a := by omega
    subst e
    rfl
  | n + 1, a, b, h => by
    rw [recMarks, recMarks_snoc n (a + 6) b (by omega), recMarks]
    rfl
theorem recMarks_take (n : Nat) (a : Int) : ∀ i, i ≤ n → (recMarks n a).take i = recMarks i a := by
  induction n generalizing a with
  | zero =>
    intro i hi
    obtain rfl : i = 0 := by omega
    rfl
  | succ n ih =>
    intro i hi
    cases i with
    | zero => rfl
    | succ i => rw [recMarks, List.take_succ_cons, ih (a + 6) i (by omega), recMarks]
theorem recMarks_rd (n : Nat) (a b : Int) (i : Nat) (h : i < n) (hb : b = a + 6 * i) : rd_T52 (recMarks n a) i = ⟨mt b, b + 1, b + 1 + 1, b + 1 + 1 + 1, mt (b + 1 + 1 + 1 + 1), mt (b + 1 + 1 + 1 + 1 + 1)⟩ := by
  rw [rdR_getElem _ _ (by rw [recMarks_length]; exact h)]
  have e : (recMarks n a).take (i + 1) = recMarks (i + 1) a := recMarks_take n a (i + 1) (by omega)
  rw [recMarks_snoc i a b hb] at e
  have hl : i < ((recMarks n a).take (i + 1)).length := by rw [List.length_take, recMarks_length]; omega
  have : ((recMarks n a).take (i + 1))[i]'hl = ⟨mt b, b + 1, b + 1 + 1, b + 1 + 1 + 1, mt (b + 1 + 1 + 1 + 1), mt (b + 1 + 1 + 1 + 1 + 1)⟩ := by
    simp only [e]
    rw [List.getElem_append_right (by rw [recMarks_length]; omega)]
    simp [recMarks_length]
  rw [List.getElem_take] at this
  exact this
theorem rdR_set (m : List S52) (i : Nat) (h : i < m.length) (v : S52) : rd_T52 (m.set i v) i = v := by
  rw [rdR_getElem _ _ (by rw [List.length_set]; exact h), List.getElem_set_self]
theorem markRecordS_loop (a : Int) (ha : 0 ≤ a ∧ a ≤ 1000000000000000000) : ∀ (d i : Nat) (m : List S52) (b : Int), i + d = m.length → m.length ≤ 140737488355328 → b = a + 6 * i → m.take i = recMarks i a →
    Ev (fun k => laws_markRecordS.l0 k m b (i : Int)) (a + 6 * m.length, recMarks m.length a) := by
  intro d
  induction d with
  | zero =>
    intro i m b hi hm hb ht
    rw [List.take_of_length_le (by omega)] at ht
    refine Ev.step (f := fun _ => some (b, m)) (fun k => ?_) ⟨0, fun _ _ => ?_⟩
    · simp only [laws_markRecordS.l0]
      rw [if_neg (by omega)]
    · have e : i = m.length := by omega
      rw [← e, ← ht, hb]
  | succ d ih =>
    intro i m b hi hm hb ht
    have him : i < m.length := by omega
    have hw := wrap_succ i m.length him hm
    obtain ⟨v, hv⟩ : ∃ v : S52, v = ⟨mt b, b + 1, b + 1 + 1, b + 1 + 1 + 1, mt (b + 1 + 1 + 1 + 1), mt (b + 1 + 1 + 1 + 1 + 1)⟩ := ⟨_, rfl⟩
    have hl : (m.set i v).length = m.length := List.length_set
    have := ih (i + 1) (m.set i v) (b + 1 + 1 + 1 + 1 + 1 + 1) (by omega) (by omega) (by omega) (by
      rw [List.take_add_one, List.take_set_of_le (Nat.le_refl _), ht, List.getElem?_set_self him, recMarks_snoc i a b hb, hv]
      rfl)
    rw [hl] at this
    have w1 : wrap64 (b + 1) = b + 1 := wrap_id (by omega) (by omega)
    have w2 : wrap64 (b + 1 + 1) = b + 1 + 1 := wrap_id (by omega) (by omega)
    have w3 : wrap64 (b + 1 + 1 + 1) = b + 1 + 1 + 1 := wrap_id (by omega) (by omega)
    have w4 : wrap64 (b + 1 + 1 + 1 + 1) = b + 1 + 1 + 1 + 1 := wrap_id (by omega) (by omega)
    have w5 : wrap64 (b + 1 + 1 + 1 + 1 + 1) = b + 1 + 1 + 1 + 1 + 1 := wrap_id (by omega) (by omega)
    have w6 : wrap64 (b + 1 + 1 + 1 + 1 + 1 + 1) = b + 1 + 1 + 1 + 1 + 1 + 1 := wrap_id (by omega) (by omega)
    have p0 : (0 : Int) ≤ (i : Int) := by omega
    have p1 : (i : Int) < (m.length : Int) := by omega
    refine Ev.step (f := fun k => (laws_markText.f k b).bind fun t1 => (laws_markText.f k (b + 1 + 1 + 1 + 1)).bind fun t2 => (laws_markText.f k (b + 1 + 1 + 1 + 1 + 1)).bind fun t3 => laws_markRecordS.l0 k (m.set i ⟨t1, b + 1, b + 1 + 1, b + 1 + 1 + 1, t2, t3⟩) (b + 1 + 1 + 1 + 1 + 1 + 1) ((i + 1 : Nat) : Int)) (fun k => ?_)
      (Ev.bind (markText_eq b (by omega)) (Ev.bind (markText_eq _ (by omega)) (Ev.bind (markText_eq _ (by omega)) (by rw [← hv]; exact this))))
    simp only [laws_markRecordS.l0, if_pos p0, if_pos p1, w1, w2, w3, w4, w5, w6, hw, Int.toNat_natCast, Option.bind_some, rdR_set m i him, List.set_set]
theorem markRecordS_eq (m : List S52) (hm : m.length ≤ 140737488355328) (a : Int) (ha : 0 ≤ a ∧ a ≤ 1000000000000000000) : Ev (fun k => laws_markRecordS.f k m a) (a + 6 * (m.length : Int), recMarks m.length a) := by
  have := markRecordS_loop a ha m.length 0 m a (by omega) hm (by omega) rfl
  unfold laws_markRecordS.f
  simpa using this
theorem heldRecordS_loop (n : Nat) (hn : n ≤ 140737488355328) (a : Int) (ha : 0 ≤ a ∧ a ≤ 1000000000000000000) : ∀ (d i : Nat) (b : Int), i + d = n → b = a + 6 * i →
    Ev (fun k => laws_heldRecordS.l0 k (recMarks n a) b (i : Int)) (a + 6 * n) := by
  intro d
  have hl := recMarks_length n a
  induction d with
  | zero =>
    intro i b hi hb
    refine Ev.step (f := fun _ => some b) (fun k => ?_) ⟨0, fun _ _ => by rw [hb, show i = n by omega]⟩
    simp only [laws_heldRecordS.l0]
    rw [if_neg (by omega)]
  | succ d ih =>
    intro i b hi hb
    have hw := wrap_succ i n (by omega) hn
    have w1 : wrap64 (b + 1) = b + 1 := wrap_id (by omega) (by omega)
    have w2 : wrap64 (b + 1 + 1) = b + 1 + 1 := wrap_id (by omega) (by omega)
    have w3 : wrap64 (b + 1 + 1 + 1) = b + 1 + 1 + 1 := wrap_id (by omega) (by omega)
    have w4 : wrap64 (b + 1 + 1 + 1 + 1) = b + 1 + 1 + 1 + 1 := wrap_id (by omega) (by omega)
    have w5 : wrap64 (b + 1 + 1 + 1 + 1 + 1) = b + 1 + 1 + 1 + 1 + 1 := wrap_id (by omega) (by omega)
    have w6 : wrap64 (b + 1 + 1 + 1 + 1 + 1 + 1) = b + 1 + 1 + 1 + 1 + 1 + 1 := wrap_id (by omega) (by omega)
    have p0 : (0 : Int) ≤ (i : Int) := by omega
    have p1 : (i : Int) < ((recMarks n a).length : Int) := by omega
    have hr := recMarks_rd n a b i (by omega) hb
    refine Ev.step (f := fun k => (laws_markText.f k b).bind fun t1 => if (mt b).toList = t1.toList then (laws_markText.f k (b + 1 + 1 + 1 + 1)).bind fun t2 => if (mt (b + 1 + 1 + 1 + 1)).toList = t2.toList then (laws_markText.f k (b + 1 + 1 + 1 + 1 + 1)).bind fun t3 => if (mt (b + 1 + 1 + 1 + 1 + 1)).toList = t3.toList then laws_heldRecordS.l0 k (recMarks n a) (b + 1 + 1 + 1 + 1 + 1 + 1) ((i + 1 : Nat) : Int) else some (-1) else some (-1) else some (-1)) (fun k => ?_) ?_
    · simp only [laws_heldRecordS.l0, if_pos p0, if_pos p1, w1, w2, w3, w4, w5, w6, hw, hr, if_true]
    · refine Ev.bind (markText_eq b (by omega)) ?_
      simp only [if_true]
      refine Ev.bind (markText_eq _ (by omega)) ?_
      simp only [if_true]
      refine Ev.bind (markText_eq _ (by omega)) ?_
      simp only [if_true]
      exact ih (i + 1) _ (by omega) (by omega)
theorem heldRecordS_eq (n : Nat) (hn : n ≤ 140737488355328) (a : Int) (ha : 0 ≤ a ∧ a ≤ 1000000000000000000) : Ev (fun k => laws_heldRecordS.f k (recMarks n a) a) (a + 6 * (n : Int)) := by
  have := heldRecordS_loop n hn a ha n 0 a (by omega) (by omega)
  unfold laws_heldRecordS.f
  simpa using this
theorem markMsg_eq (a0 : Int) (a1 a2 a3 a4 a5 : Bool) (a6 : Int) (a7 : ByteArray) (a8 : Int) (l9 l10 l11 : List S52) (h9 : l9.length ≤ 281474976710) (h10 : l10.length ≤ 281474976710) (h11 : l11.length ≤ 281474976710) :
    Ev (fun k => laws_markMsg.f k a0 a1 a2 a3 a4 a5 a6 a7 a8 l9 l10 l11 1) (1 + 6 * (l9.length : Int) + 6 * (l10.length : Int) + 6 * (l11.length : Int), recMarks l9.length 1, recMarks l10.length (1 + 6 * (l9.length : Int)), recMarks l11.length (1 + 6 * (l9.length : Int) + 6 * (l10.length : Int))) := by
  unfold laws_markMsg.f
  refine Ev.bind (markRecordS_eq l9 (by omega) 1 (by omega)) ?_
  refine Ev.bind (markRecordS_eq l10 (by omega) _ (by omega)) ?_
  refine Ev.bind (markRecordS_eq l11 (by omega) _ (by omega)) ?_
  exact Ev.now _
theorem heldMsg_eq (a0 : Int) (a1 a2 a3 a4 a5 : Bool) (a6 : Int) (a7 : ByteArray) (a8 : Int) (n9 n10 n11 : Nat) (h9 : n9 ≤ 281474976710) (h10 : n10 ≤ 281474976710) (h11 : n11 ≤ 281474976710) :
    Ev (fun k => laws_heldMsg.f k a0 a1 a2 a3 a4 a5 a6 a7 a8 (recMarks n9 1) (recMarks n10 (1 + 6 * (n9 : Int))) (recMarks n11 (1 + 6 * (n9 : Int) + 6 * (n10 : Int))) 1) (1 + 6 * (n9 : Int) + 6 * (n10 : Int) + 6 * (n11 : Int)) := by
  unfold laws_heldMsg.f
  have p1 : ¬ (1 + 6 * (n9 : Int)) < 0 := by omega
  have p2 : ¬ (1 + 6 * (n9 : Int) + 6 * (n10 : Int)) < 0 := by omega
  have p3 : ¬ (1 + 6 * (n9 : Int) + 6 * (n10 : Int) + 6 * (n11 : Int)) < 0 := by omega
  refine Ev.bind (heldRecordS_eq n9 (by omega) 1 (by omega)) ?_
  simp only [if_neg p1]
  refine Ev.bind (heldRecordS_eq n10 (by omega) _ (by omega)) ?_
  simp only [if_neg p2]
  refine Ev.bind (heldRecordS_eq n11 (by omega) _ (by omega)) ?_
  simp only [if_neg p3]
  exact Ev.now _
theorem szQuest_eq (s : ByteArray) (hs : s.size ≤ 140737488351232) (n : Int) : ∃ r, laws_szQuest.f s n 1048576 = some r ∧ -1 ≤ r ∧ r ≤ 1048576 := by
  unfold laws_szQuest.f
  rw [wrap_id (x := 1048576 - (s.size : Int)) (by omega) (by omega)]
  by_cases c : 1048576 - (s.size : Int) < 0
  · exact ⟨-1, by rw [if_pos c], by omega, by omega⟩
  · exact ⟨_, by rw [if_neg c], by omega, by omega⟩
theorem toMsg_eq (a0 : Int) (a1 a2 a3 a4 a5 : Bool) (a6 : Int) (a7 : ByteArray) (a8 : Int) (l9 l10 l11 : List S49) (h9 : l9.length ≤ 1048576) (h10 : l10.length ≤ 1048576) (h11 : l11.length ≤ 1048576) :
    Ev (fun k => laws_toMsg.f k a0 a1 a2 a3 a4 a5 a6 a7 a8 l9 l10 l11) (a0, a1, a2, a3, a4, a5, a6, a7, a8, l9.map cvR, l10.map cvR, l11.map cvR) := by
  unfold laws_toMsg.f laws_toQuest.f
  simp only [Option.bind_some]
  refine Ev.bind (toRecordS_eq l9 h9) (Ev.bind (toRecordS_eq l10 h10) (Ev.bind (toRecordS_eq l11 h11) ?_))
  exact Ev.now _
/-- What a claim says of a list of records. -/
def okRs (l : List S49) : Prop := l.length ≤ 140737488351232 ∧ ∀ x ∈ l, okR x
theorem szMsg_eq (a0 : Int) (a1 a2 a3 a4 a5 : Bool) (a6 : Int) (a7 : ByteArray) (a8 : Int) (l9 l10 l11 : List S49) (h7 : a7.size ≤ 140737488351232) (h9 : okRs l9) (h10 : okRs l10) (h11 : okRs l11) :
    ∃ r, Ev (fun k => laws_szMsg.f k a0 a1 a2 a3 a4 a5 a6 a7 a8 l9 l10 l11 1048576) r ∧ -1 ≤ r ∧ r ≤ 1048576 ∧ (0 ≤ r → l9.length ≤ 1048576 ∧ l10.length ≤ 1048576 ∧ l11.length ≤ 1048576) := by
  unfold laws_szMsg.f
  obtain ⟨r0, e0, b0, c0⟩ := szQuest_eq a7 h7 a8
  simp only [e0, Option.bind_some]
  by_cases n0 : r0 < 0
  · refine ⟨-1, ?_, by omega, by omega, by omega⟩
    simp only [if_pos n0]
    exact Ev.now _
  · simp only [if_neg n0]
    obtain ⟨r1, e1, b1, c1, d1⟩ := szRecordS_eq l9 h9.1 h9.2 r0 (by omega)
    by_cases n1 : r1 < 0
    · refine ⟨-1, ?_, by omega, by omega, by omega⟩
      refine Ev.bind e1 ?_
      simp only [if_pos n1]
      exact Ev.now _
    · obtain ⟨r2, e2, b2, c2, d2⟩ := szRecordS_eq l10 h10.1 h10.2 r1 (by omega)
      by_cases n2 : r2 < 0
      · refine ⟨-1, ?_, by omega, by omega, by omega⟩
        refine Ev.bind e1 ?_
        simp only [if_neg n1]
        refine Ev.bind e2 ?_
        simp only [if_pos n2]
        exact Ev.now _
      · obtain ⟨r3, e3, b3, c3, d3⟩ := szRecordS_eq l11 h11.1 h11.2 r2 (by omega)
        by_cases n3 : r3 < 0
        · refine ⟨-1, ?_, by omega, by omega, by omega⟩
          refine Ev.bind e1 ?_
          simp only [if_neg n1]
          refine Ev.bind e2 ?_
          simp only [if_neg n2]
          refine Ev.bind e3 ?_
          simp only [if_pos n3]
          exact Ev.now _
        · have f1 := d1 (by omega)
          have f2 := d2 (by omega)
          have f3 := d3 (by omega)
          refine ⟨r3, ?_, b3, c3, fun _ => by omega⟩
          refine Ev.bind e1 ?_
          simp only [if_neg n1]
          refine Ev.bind e2 ?_
          simp only [if_neg n2]
          refine Ev.bind e3 ?_
          simp only [if_neg n3]
          exact Ev.now _
theorem g_okM {a0 : Int} {a1 a2 a3 a4 a5 : Bool} {a6 : Int} {a7 : ByteArray} {a8 : Int} {l9 l10 l11 : List S49} (h : g26 (⟨a0, a1, a2, a3, a4, a5, a6, (⟨a7, a8⟩ : S23), l9, l10, l11⟩ : S26)) :
    a7.size ≤ 140737488351232 ∧ okRs l9 ∧ okRs l10 ∧ okRs l11 := by
  obtain ⟨_, _, _, _, _, _, _, q, ⟨_, m9, w9⟩, ⟨_, m10, w10⟩, ⟨_, m11, w11⟩⟩ := h
  have n9 : l9.length * 72 ≤ 140737488351232 := m9
  have n10 : l10.length * 72 ≤ 140737488351232 := m10
  have n11 : l11.length * 72 ≤ 140737488351232 := m11
  exact ⟨q.1, ⟨by omega, fun x hx => g_okR (w9 x hx)⟩, ⟨by omega, fun x hx => g_okR (w10 x hx)⟩, ⟨by omega, fun x hx => g_okR (w11 x hx)⟩⟩

end Go.Proofs.Ytmcldfjfgmhklaa.Lem
