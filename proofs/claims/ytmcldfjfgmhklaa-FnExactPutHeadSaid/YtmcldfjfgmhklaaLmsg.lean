/- Lemmas on the printed functions, of this session. -/
import Derived.Test.YtmcldfjfgmhklaaY
import Derived.Test.YtmcldfjfgmhklaaLrec
import Derived.Test.YtmcldfjfgmhklaaPrx0
import Derived.Test.YtmcldfjfgmhklaaPrx2
import Derived.Test.YtmcldfjfgmhklaaPrx3
import Derived.Test.YtmcldfjfgmhklaaPrx5
namespace Go.Proofs.Ytmcldfjfgmhklaa.Lem
open Go.RowKit Go.Proofs.Ytmcldfjfgmhklaa.Pr Go.Proofs.Ytmcldfjfgmhklaa.X Go.Proofs.Ytmcldfjfgmhklaa.Y Go.Proofs.YtmcldfjfgmhklaaW.PrintWords Go.Proofs.YtmcldfjfgmhklaaW.PrintLast Go.Proofs.YtmcldfjfgmhklaaW.PrintMore
set_option linter.unusedVariables false
set_option linter.unusedSimpArgs false
theorem eqQuest_self (a : ByteArray) (b : Int) : laws_eqQuest.f a b a b = some true := by
  unfold laws_eqQuest.f
  simp
theorem eqMsg_same (a0 : Int) (a1 a2 a3 a4 a5 : Bool) (a6 : Int) (a7 : ByteArray) (a8 : Int) (l9 l10 l11 : List S52) (h9 : l9.length ≤ 140737488351232) (h10 : l10.length ≤ 140737488351232) (h11 : l11.length ≤ 140737488351232) :
    Ev (fun k => laws_eqMsg.f k a0 a1 a2 a3 a4 a5 a6 a7 a8 l9 l10 l11 a0 a1 a2 a3 a4 a5 a6 a7 a8 l9 l10 l11) true := by
  unfold laws_eqMsg.f
  simp only [if_true, bne_self_eq_false, if_neg (show ¬ (false = true) by decide), eqQuest_self, Option.bind_some]
  refine Ev.bind (eqRecordS_same l9 h9) ?_
  simp only [if_true]
  refine Ev.bind (eqRecordS_same l10 h10) ?_
  simp only [if_true]
  refine Ev.bind (eqRecordS_same l11 h11) ?_
  simp only [if_true]
  exact Ev.now _
/-- What the laws write into a text: m and digits. -/
def mt (a : Int) : ByteArray := if a ≤ 0 then (⟨#[109, 48]⟩ : ByteArray) else strOfNums (109 :: decZ a.toNat)
theorem markText_loop : ∀ (m : Nat) (s : List Int), m ≤ 4000000000000000000 → (decZ m).length + s.length ≤ 100 → Ev (fun k => laws_markText.l0 k (m : Int) (strOfNums s)) (strOfNums (109 :: (decZ m ++ s))) := by
  intro m
  induction m using Nat.strongRecOn with
  | _ m ih =>
    intro s hm hl
    by_cases hz : m = 0
    · subst hz
      refine Ev.step (f := fun _ => some (strOfNums (109 :: s))) (fun k => ?_) ⟨0, fun _ _ => by rw [decZ_zero, List.nil_append]⟩
      simp only [laws_markText.l0]
      rw [if_neg (by omega), if_pos (by rw [strOfNums_size]; omega), show (109 :: s) = [109] ++ s from rfl, strOfNums_append]
      rfl
    · have hd := decZ_pos m hz
      have hl2 : (decZ m).length = (decZ (m / 10)).length + 1 := by rw [hd, List.length_append]; rfl
      have := ih (m / 10) (by omega) ((48 + ((m % 10 : Nat) : Int)) :: s) (by omega) (by rw [List.length_cons]; omega)
      have e : decZ (m / 10) ++ (48 + ((m % 10 : Nat) : Int)) :: s = decZ m ++ s := by rw [hd, List.append_assoc]; rfl
      rw [e] at this
      refine Ev.step (f := fun k => laws_markText.l0 k ((m / 10 : Nat) : Int) (strOfNums ((48 + ((m % 10 : Nat) : Int)) :: s))) (fun k => ?_) this
      simp only [laws_markText.l0]
      rw [if_pos (by omega), tmod_pos, tdiv_pos]
      have w1 : wrap64 (48 + ((m % 10 : Nat) : Int)) % 256 = 48 + ((m % 10 : Nat) : Int) := by rw [wrap_id (by omega) (by omega)]; omega
      have w2 : wrap64 ((m / 10 : Nat) : Int) = ((m / 10 : Nat) : Int) := wrap_id (by omega) (by omega)
      rw [w1, w2]
      simp only [Option.bind_some]
      rw [if_pos (by rw [strOfNums_size, strOfNums_size]; simp; omega), ← strOfNums_append]
      rfl
theorem markText_eq (a : Int) (ha : a ≤ 4000000000000000000) : Ev (fun k => laws_markText.f k a) (mt a) := by
  unfold laws_markText.f mt
  by_cases h : a ≤ 0
  · simp only [if_pos h]
    exact Ev.now _
  · simp only [if_neg h]
    have := markText_loop a.toNat [] (by omega) (by have := decZ_le a.toNat (by omega); simp; omega)
    rw [show ((a.toNat : Int)) = a by omega, List.append_nil] at this
    exact this
/-- What the laws write into records. -/
def recMarks : Nat → Int → List S52
  | 0, _ => []
  | n + 1, a => ⟨mt a, a + 1, a + 1 + 1, a + 1 + 1 + 1, mt (a + 1 + 1 + 1 + 1), mt (a + 1 + 1 + 1 + 1 + 1)⟩ :: recMarks n (a + 6)
theorem recMarks_length : ∀ (n : Nat) (a : Int), (recMarks n a).length = n
  | 0, _ => rfl
  | n + 1, a => by rw [recMarks, List.length_cons, recMarks_length n]
theorem recMarks_snoc : ∀ (n : Nat) (a b : Int), b = a + 6 * n → recMarks (n + 1) a = recMarks n a ++ [⟨mt b, b + 1, b + 1 + 1, b + 1 + 1 + 1, mt (b + 1 + 1 + 1 + 1), mt (b + 1 + 1 + 1 + 1 + 1)⟩]
  | 0, a, b, h => by
    have e : b = a := by omega
    subst e
    rfl
  | n + 1, a, b, h => by
    rw [recMarks, recMarks_snoc n (a + 6) b (by omega), recMarks]
    rfl
theorem recMarks_take (n : Nat) (a : Int) : ∀ i, i ≤ n → (recMarks n a).take i = recMarks i a := by
  induction n generalizing a with
  | zero =>
    intro i hi
    obtain rfl : i = 0 := by omega
    rfl
  | succ n ih =>
    intro i hi
    cases i with
    | zero => rfl
    | succ i => rw [recMarks, List.take_succ_cons, ih (a + 6) i (by omega), recMarks]
theorem recMarks_rd (n : Nat) (a b : Int) (i : Nat) (h : i < n) (hb : b = a + 6 * i) : rd_T52 (recMarks n a) i = ⟨mt b, b + 1, b + 1 + 1, b + 1 + 1 + 1, mt (b + 1 + 1 + 1 + 1), mt (b + 1 + 1 + 1 + 1 + 1)⟩ := by
  rw [rdR_getElem _ _ (by rw [recMarks_length]; exact h)]
  have e : (recMarks n a).take (i + 1) = recMarks (i + 1) a := recMarks_take n a (i + 1) (by omega)
  rw [recMarks_snoc i a b hb] at e
  have hl : i < ((recMarks n a).take (i + 1)).length := by rw [List.length_take, recMarks_length]; omega
  have : ((recMarks n a).take (i + 1))[i]'hl = ⟨mt b, b + 1, b + 1 + 1, b + 1 + 1 + 1, mt (b + 1 + 1 + 1 + 1), mt (b + 1 + 1 + 1 + 1 + 1)⟩ := by
    simp only [e]
    rw [List.getElem_append_right (by rw [recMarks_length]; omega)]
    simp [recMarks_length]
  rw [List.getElem_take] at this
  exact this
theorem rdR_set (m : List S52) (i : Nat) (h : i < m.length) (v : S52) : rd_T52 (m.set i v) i = v := by
  rw [rdR_getElem _ _ (by rw [List.length_set]; exact h), List.getElem_set_self]
theorem markRecordS_loop (a : Int) (ha : 0 ≤ a ∧ a ≤ 1000000000000000000) : ∀ (d i : Nat) (m : List S52) (b : Int), i + d = m.length → m.length ≤ 140737488355328 → b = a + 6 * i → m.take i = recMarks i a →
    Ev (fun k => laws_markRecordS.l0 k m b (i : Int)) (a + 6 * m.length, recMarks m.length a) := by
  intro d
  induction d with
  | zero =>
    intro i m b hi hm hb ht
    rw [List.take_of_length_le (by omega)] at ht
    refine Ev.step (f := fun _ => some (b, m)) (fun k => ?_) ⟨0, fun _ _ => ?_⟩
    · simp only [laws_markRecordS.l0]
      rw [if_neg (by omega)]
    · have e : i = m.length := by omega
      rw [← e, ← ht, hb]
  | succ d ih =>
    intro i m b hi hm hb ht
    have him : i < m.length := by omega
    have hw := wrap_succ i m.length him hm
    obtain ⟨v, hv⟩ : ∃ v : S52, v = ⟨mt b, b + 1, b + 1 + 1, b + 1 + 1 + 1, mt (b + 1 + 1 + 1 + 1), mt (b + 1 + 1 + 1 + 1 + 1)⟩ := ⟨_, rfl⟩
    have hl : (m.set i v).length = m.length := List.length_set
    have := ih (i + 1) (m.set i v) (b + 1 + 1 + 1 + 1 + 1 + 1) (by omega) (by omega) (by omega) (by
      rw [List.take_add_one, List.take_set_of_le (Nat.le_refl _), ht, List.getElem?_set_self him, recMarks_snoc i a b hb, hv]
      rfl)
    rw [hl] at this
    have w1 : wrap64 (b + 1) = b + 1 := wrap_id (by omega) (by omega)
    have w2 : wrap64 (b + 1 + 1) = b + 1 + 1 := wrap_id (by omega) (by omega)
    have w3 : wrap64 (b + 1 + 1 + 1) = b + 1 + 1 + 1 := wrap_id (by omega) (by omega)
    have w4 : wrap64 (b + 1 + 1 + 1 + 1) = b + 1 + 1 + 1 + 1 := wrap_id (by omega) (by omega)
    have w5 : wrap64 (b + 1 + 1 + 1 + 1 + 1) = b + 1 + 1 + 1 + 1 + 1 := wrap_id (by omega) (by omega)
    have w6 : wrap64 (b + 1 + 1 + 1 + 1 + 1 + 1) = b + 1 + 1 + 1 + 1 + 1 + 1 := wrap_id (by omega) (by omega)
    have p0 : (0 : Int) ≤ (i : Int) := by omega
    have p1 : (i : Int) < (m.length : Int) := by omega
    refine Ev.step (f := fun k => (laws_markText.f k b).bind fun t1 => (laws_markText.f k (b + 1 + 1 + 1 + 1)).bind fun t2 => (laws_markText.f k (b + 1 + 1 + 1 + 1 + 1)).bind fun t3 => laws_markRecordS.l0 k (m.set i ⟨t1, b + 1, b + 1 + 1, b + 1 + 1 + 1, t2, t3⟩) (b + 1 + 1 + 1 + 1 + 1 + 1) ((i + 1 : Nat) : Int)) (fun k => ?_)
      (Ev.bind (markText_eq b (by omega)) (Ev.bind (markText_eq _ (by omega)) (Ev.bind (markText_eq _ (by omega)) (by rw [← hv]; exact this))))
    simp only [laws_markRecordS.l0, if_pos p0, if_pos p1, w1, w2, w3, w4, w5, w6, hw, Int.toNat_natCast, Option.bind_some, rdR_set m i him, List.set_set]
theorem markRecordS_eq (m : List S52) (hm : m.length ≤ 140737488355328) (a : Int) (ha : 0 ≤ a ∧ a ≤ 1000000000000000000) : Ev (fun k => laws_markRecordS.f k m a) (a + 6 * (m.length : Int), recMarks m.length a) := by
  have := markRecordS_loop a ha m.length 0 m a (by omega) hm (by omega) rfl
  unfold laws_markRecordS.f
  simpa using this
theorem heldRecordS_loop (n : Nat) (hn : n ≤ 140737488355328) (a : Int) (ha : 0 ≤ a ∧ a ≤ 1000000000000000000) : ∀ (d i : Nat) (b : Int), i + d = n → b = a + 6 * i →
    Ev (fun k => laws_heldRecordS.l0 k (recMarks n a) b (i : Int)) (a + 6 * n) := by
  intro d
  have hl := recMarks_length n a
  induction d with
  | zero =>
    intro i b hi hb
    refine Ev.step (f := fun _ => some b) (fun k => ?_) ⟨0, fun _ _ => by rw [hb, show i = n by omega]⟩
    simp only [laws_heldRecordS.l0]
    rw [if_neg (by omega)]
  | succ d ih =>
    intro i b hi hb
    have hw := wrap_succ i n (by omega) hn
    have w1 : wrap64 (b + 1) = b + 1 := wrap_id (by omega) (by omega)
    have w2 : wrap64 (b + 1 + 1) = b + 1 + 1 := wrap_id (by omega) (by omega)
    have w3 : wrap64 (b + 1 + 1 + 1) = b + 1 + 1 + 1 := wrap_id (by omega) (by omega)
    have w4 : wrap64 (b + 1 + 1 + 1 + 1) = b + 1 + 1 + 1 + 1 := wrap_id (by omega) (by omega)
    have w5 : wrap64 (b + 1 + 1 + 1 + 1 + 1) = b + 1 + 1 + 1 + 1 + 1 := wrap_id (by omega) (by omega)
    have w6 : wrap64 (b + 1 + 1 + 1 + 1 + 1 + 1) = b + 1 + 1 + 1 + 1 + 1 + 1 := wrap_id (by omega) (by omega)
    have p0 : (0 : Int) ≤ (i : Int) := by omega
    have p1 : (i : Int) < ((recMarks n a).length : Int) := by omega
    have hr := recMarks_rd n a b i (by omega) hb
    refine Ev.step (f := fun k => (laws_markText.f k b).bind fun t1 => if (mt b).toList = t1.toList then (laws_markText.f k (b + 1 + 1 + 1 + 1)).bind fun t2 => if (mt (b + 1 + 1 + 1 + 1)).toList = t2.toList then (laws_markText.f k (b + 1 + 1 + 1 + 1 + 1)).bind fun t3 => if (mt (b + 1 + 1 + 1 + 1 + 1)).toList = t3.toList then laws_heldRecordS.l0 k (recMarks n a) (b + 1 + 1 + 1 + 1 + 1 + 1) ((i + 1 : Nat) : Int) else some (-1) else some (-1) else some (-1)) (fun k => ?_) ?_
    · simp only [laws_heldRecordS.l0, if_pos p0, if_pos p1, w1, w2, w3, w4, w5, w6, hw, hr, if_true]
    · refine Ev.bind (markText_eq b (by omega)) ?_
      simp only [if_true]
      refine Ev.bind (markText_eq _ (by omega)) ?_
      simp only [if_true]
      refine Ev.bind (markText_eq _ (by omega)) ?_
      simp only [if_true]
      exact ih (i + 1) _ (by omega) (by omega)
theorem heldRecordS_eq (n : Nat) (hn : n ≤ 140737488355328) (a : Int) (ha : 0 ≤ a ∧ a ≤ 1000000000000000000) : Ev (fun k => laws_heldRecordS.f k (recMarks n a) a) (a + 6 * (n : Int)) := by
  have := heldRecordS_loop n hn a ha n 0 a (by omega) (by omega)
  unfold laws_heldRecordS.f
  simpa using this

end Go.Proofs.Ytmcldfjfgmhklaa.Lem
