/- Lemmas on the printed functions, of this session. -/
import Derived.Test.YtmcldfjfgmhklaaDoorY
import Derived.Test.YtmcldfjfgmhklaaDoorLev
import Derived.Test.YtmcldfjfgmhklaaDoorLmsg
import Derived.Test.YtmcldfjfgmhklaaDoorLstrs
import Derived.Test.YtmcldfjfgmhklaaDoorPrx0
import Derived.Test.YtmcldfjfgmhklaaDoorPrx16
namespace Go.Proofs.YtmcldfjfgmhklaaDoor.Lem
open Go.RowKit Go.Proofs.YtmcldfjfgmhklaaDoor.Pr Go.Proofs.YtmcldfjfgmhklaaDoor.X Go.Proofs.YtmcldfjfgmhklaaDoor.Y Go.Proofs.YtmcldfjfgmhklaaDoorW.PrintWords Go.Proofs.YtmcldfjfgmhklaaDoorW.PrintLast Go.Proofs.YtmcldfjfgmhklaaDoorW.PrintMore
set_option linter.unusedVariables false
set_option linter.unusedSimpArgs false
/-- What the laws write into strings. -/
def strMarks : Nat → Int → List ByteArray
  | 0, _ => []
  | n + 1, a => mt a :: strMarks n (a + 1)
theorem strMarks_length : ∀ (n : Nat) (a : Int), (strMarks n a).length = n
  | 0, _ => rfl
  | n + 1, a => by rw [strMarks, List.length_cons, strMarks_length n]
theorem strMarks_snoc : ∀ (n : Nat) (a b : Int), b = a + n → strMarks (n + 1) a = strMarks n a ++ [mt b]
  | 0, a, b, h => by
    have e : b = a := by omega
    subst e
    rfl
  | n + 1, a, b, h => by
    rw [strMarks, strMarks_snoc n (a + 1) b (by omega), strMarks]
    rfl
theorem strMarks_take (n : Nat) (a : Int) : ∀ i, i ≤ n → (strMarks n a).take i = strMarks i a := by
  induction n generalizing a with
  | zero =>
    intro i hi
    obtain rfl : i = 0 := by omega
    rfl
  | succ n ih =>
    intro i hi
    cases i with
    | zero => rfl
    | succ i => rw [strMarks, List.take_succ_cons, ih (a + 1) i (by omega), strMarks]
theorem strMarks_rd (n : Nat) (a b : Int) (i : Nat) (h : i < n) (hb : b = a + i) : rdOf ByteArray.empty (strMarks n a) (i : Int) = mt b := by
  rw [rdS_getElem _ _ (by rw [strMarks_length]; exact h)]
  have e : (strMarks n a).take (i + 1) = strMarks (i + 1) a := strMarks_take n a (i + 1) (by omega)
  rw [strMarks_snoc i a b hb] at e
  have hl : i < ((strMarks n a).take (i + 1)).length := by rw [List.length_take, strMarks_length]; omega
  have : ((strMarks n a).take (i + 1))[i]'hl = mt b := by
    simp only [e]
    rw [List.getElem_append_right (by rw [strMarks_length]; omega)]
    simp [strMarks_length]
  rw [List.getElem_take] at this
  exact this
theorem markStringS_loop (a : Int) (ha : 0 ≤ a ∧ a ≤ 1000000000000000000) : ∀ (d i : Nat) (m : List ByteArray) (b : Int), i + d = m.length → m.length ≤ 140737488355328 → b = a + i → m.take i = strMarks i a →
    Ev (fun k => laws_markStringS.l0 k m b (i : Int)) (a + m.length, strMarks m.length a) := by
  intro d
  induction d with
  | zero =>
    intro i m b hi hm hb ht
    rw [List.take_of_length_le (by omega)] at ht
    refine Ev.step (f := fun _ => some (b, m)) (fun k => ?_) ⟨0, fun _ _ => ?_⟩
    · simp only [laws_markStringS.l0]
      rw [if_neg (by omega)]
    · have e : i = m.length := by omega
      rw [← e, ← ht, hb]
  | succ d ih =>
    intro i m b hi hm hb ht
    have him : i < m.length := by omega
    have hw := wrap_succ i m.length him hm
    have hl : (m.set i (mt b)).length = m.length := List.length_set
    have := ih (i + 1) (m.set i (mt b)) (b + 1) (by omega) (by omega) (by omega) (by
      rw [List.take_add_one, List.take_set_of_le (Nat.le_refl _), ht, List.getElem?_set_self him, strMarks_snoc i a b hb]
      rfl)
    rw [hl] at this
    have w1 : wrap64 (b + 1) = b + 1 := wrap_id (by omega) (by omega)
    have p0 : (0 : Int) ≤ (i : Int) := by omega
    have p1 : (i : Int) < (m.length : Int) := by omega
    refine Ev.step (f := fun k => (laws_markText.f k b).bind fun t1 => laws_markStringS.l0 k (m.set i t1) (b + 1) ((i + 1 : Nat) : Int)) (fun k => ?_) (Ev.bind (markText_eq b (by omega)) this)
    simp only [laws_markStringS.l0, if_pos p0, if_pos p1, w1, hw, Int.toNat_natCast]
theorem markStringS_eq (m : List ByteArray) (hm : m.length ≤ 140737488355328) (a : Int) (ha : 0 ≤ a ∧ a ≤ 1000000000000000000) : Ev (fun k => laws_markStringS.f k m a) (a + (m.length : Int), strMarks m.length a) := by
  have := markStringS_loop a ha m.length 0 m a (by omega) hm (by omega) rfl
  unfold laws_markStringS.f
  simpa using this
theorem heldStringS_loop (n : Nat) (hn : n ≤ 140737488355328) (a : Int) (ha : 0 ≤ a ∧ a ≤ 1000000000000000000) : ∀ (d i : Nat) (b : Int), i + d = n → b = a + i →
    Ev (fun k => laws_heldStringS.l0 k (strMarks n a) b (i : Int)) (a + n) := by
  intro d
  have hl := strMarks_length n a
  induction d with
  | zero =>
    intro i b hi hb
    refine Ev.step (f := fun _ => some b) (fun k => ?_) ⟨0, fun _ _ => by rw [hb, show i = n by omega]⟩
    simp only [laws_heldStringS.l0]
    rw [if_neg (by omega)]
  | succ d ih =>
    intro i b hi hb
    have hw := wrap_succ i n (by omega) hn
    have w1 : wrap64 (b + 1) = b + 1 := wrap_id (by omega) (by omega)
    have p0 : (0 : Int) ≤ (i : Int) := by omega
    have p1 : (i : Int) < ((strMarks n a).length : Int) := by omega
    have hr := strMarks_rd n a b i (by omega) hb
    refine Ev.step (f := fun k => (laws_markText.f k b).bind fun t1 => if (mt b).toList = t1.toList then laws_heldStringS.l0 k (strMarks n a) (b + 1) ((i + 1 : Nat) : Int) else some (-1)) (fun k => ?_) ?_
    · simp only [laws_heldStringS.l0, if_pos p0, if_pos p1, w1, hw, hr]
    · refine Ev.bind (markText_eq b (by omega)) (Ev_if rfl ?_)
      exact ih (i + 1) _ (by omega) (by omega)
theorem heldStringS_eq (n : Nat) (hn : n ≤ 140737488355328) (a : Int) (ha : 0 ≤ a ∧ a ≤ 1000000000000000000) : Ev (fun k => laws_heldStringS.f k (strMarks n a) a) (a + (n : Int)) := by
  have := heldStringS_loop n hn a ha n 0 a (by omega) (by omega)
  unfold laws_heldStringS.f
  simpa using this

end Go.Proofs.YtmcldfjfgmhklaaDoor.Lem
