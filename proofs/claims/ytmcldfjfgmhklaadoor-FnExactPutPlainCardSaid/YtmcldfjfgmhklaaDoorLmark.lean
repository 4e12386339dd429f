/- Lemmas on the printed functions, of this session. -/
import Derived.Test.YtmcldfjfgmhklaaDoorY
import Derived.Test.YtmcldfjfgmhklaaDoorPrx0
import Derived.Test.YtmcldfjfgmhklaaDoorPrx8
namespace Go.Proofs.YtmcldfjfgmhklaaDoor.Lem
open Go.RowKit Go.Proofs.YtmcldfjfgmhklaaDoor.Pr Go.Proofs.YtmcldfjfgmhklaaDoor.X Go.Proofs.YtmcldfjfgmhklaaDoor.Y Go.Proofs.YtmcldfjfgmhklaaDoorW.PrintWords Go.Proofs.YtmcldfjfgmhklaaDoorW.PrintLast Go.Proofs.YtmcldfjfgmhklaaDoorW.PrintMore
set_option linter.unusedVariables false
set_option linter.unusedSimpArgs false
/-- What the laws write into bytes: a, a + 1, .. -/
def marks : Nat → Int → List Int
  | 0, _ => []
  | n + 1, a => a % 256 :: marks n (a + 1)
theorem marks_length : ∀ (n : Nat) (a : Int), (marks n a).length = n
  | 0, _ => rfl
  | n + 1, a => by rw [marks, List.length_cons, marks_length n]
theorem marks_snoc : ∀ (n : Nat) (a : Int), marks (n + 1) a = marks n a ++ [(a + n) % 256]
  | 0, a => by simp [marks]
  | n + 1, a => by
    rw [marks, marks_snoc n (a + 1), marks]
    simp only [List.cons_append]
    congr 3
    omega
theorem marks_take (n : Nat) (a : Int) : ∀ i, i ≤ n → (marks n a).take i = marks i a := by
  induction n generalizing a with
  | zero =>
    intro i hi
    obtain rfl : i = 0 := by omega
    rfl
  | succ n ih =>
    intro i hi
    cases i with
    | zero => rfl
    | succ i =>
      rw [marks, List.take_succ_cons, ih (a + 1) i (by omega), marks]
theorem marks_rd (n : Nat) (a : Int) (i : Nat) (h : i < n) : rd (marks n a) i = (a + i) % 256 := by
  rw [rd_getElem _ _ (by rw [marks_length]; exact h)]
  have e : (marks n a).take (i + 1) = marks (i + 1) a := marks_take n a (i + 1) (by omega)
  rw [marks_snoc] at e
  have hl : i < ((marks n a).take (i + 1)).length := by rw [List.length_take, marks_length]; omega
  have : ((marks n a).take (i + 1))[i]'hl = (a + i) % 256 := by
    simp only [e]
    rw [List.getElem_append_right (by rw [marks_length]; omega)]
    simp [marks_length]
  rw [List.getElem_take] at this
  exact this
theorem markByteS_loop (a : Int) (ha : 0 ≤ a ∧ a ≤ 4000000000000000000) : ∀ (d i : Nat) (m : List Int), i + d = m.length → m.length ≤ 140737488355328 → m.take i = marks i a →
    Ev (fun k => laws_markByteS.l0 k m (a + i) (i : Int)) (a + m.length, marks m.length a) := by
  intro d
  induction d with
  | zero =>
    intro i m hi hm ht
    rw [List.take_of_length_le (by omega)] at ht
    refine Ev.step (f := fun _ => some (a + i, m)) (fun k => ?_) ⟨0, fun _ _ => ?_⟩
    · simp only [laws_markByteS.l0]
      rw [if_neg (by omega)]
    · have e : i = m.length := by omega
      rw [← e, ← ht]
  | succ d ih =>
    intro i m hi hm ht
    have hl : (m.set i ((a + i) % 256)).length = m.length := List.length_set
    have hw := wrap_succ i m.length (by omega) hm
    have := ih (i + 1) (m.set i ((a + i) % 256)) (by omega) (by omega) (by
      rw [List.take_add_one, List.take_set_of_le (Nat.le_refl _), ht, List.getElem?_set_self (by omega), marks_snoc]
      rfl)
    rw [hl] at this
    refine Ev.step (f := fun k => laws_markByteS.l0 k (m.set i ((a + i) % 256)) (a + ((i + 1 : Nat) : Int)) ((i + 1 : Nat) : Int)) (fun k => ?_) this
    simp only [laws_markByteS.l0]
    rw [if_pos (by omega), if_pos (by omega), hw, Int.toNat_natCast, wrap_id (x := a + (i : Int) + 1) (by omega) (by omega)]
    congr 1
    omega
theorem markByteS_eq (m : List Int) (hm : m.length ≤ 140737488355328) : Ev (fun k => laws_markByteS.f k m 1) (1 + (m.length : Int), marks m.length 1) := by
  have := markByteS_loop 1 (by omega) m.length 0 m (by omega) hm rfl
  unfold laws_markByteS.f
  simpa using this

end Go.Proofs.YtmcldfjfgmhklaaDoor.Lem
